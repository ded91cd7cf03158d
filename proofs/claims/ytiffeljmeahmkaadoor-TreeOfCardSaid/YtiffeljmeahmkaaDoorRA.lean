/- The document's tree: where a node stands. -/
import Derived.Test.YtiffeljmeahmkaaDoorOb
import Derived.Test.YtiffeljmeahmkaaDoorOd
namespace Go.Proofs.YtiffeljmeahmkaaDoor.S
open Go.RowKit Go.Proofs.YtiffeljmeahmkaaDoorW.PrintWords Go.Proofs.YtiffeljmeahmkaaDoorW.PrintLast Go.Proofs.YtiffeljmeahmkaaDoorW.PrintMore
set_option linter.unusedVariables false
set_option linter.unusedSimpArgs false
attribute [local go_sem high] eqA25
/-- A row of nodes, and one of operations, that is only read. -/
def RowN (w : World) (v : Value) (l : List Nod) : Prop := ∃ A c, v = .slice A l.length c ∧ l.length ≤ c ∧ Kd.C k36 w A l.length l
def RowO (w : World) (v : Value) (l : List Opn) : Prop := ∃ A c, v = .slice A l.length c ∧ l.length ≤ c ∧ Kd.C k28 w A l.length l
theorem RowN.below {w w1 : World} {v : Value} {l : List Nod} (h : RowN w v l) (hb : Below w.heap.size w w1) : RowN w1 v l := by
  obtain ⟨A, c, e, hc, hC⟩ := h
  exact ⟨A, c, e, hc, Kd.C_below hC hb⟩
theorem RowO.below {w w1 : World} {v : Value} {l : List Opn} (h : RowO w v l) (hb : Below w.heap.size w w1) : RowO w1 v l := by
  obtain ⟨A, c, e, hc, hC⟩ := h
  exact ⟨A, c, e, hc, Kd.C_below hC hb⟩
theorem RowN.at {w : World} {A : Option Addr} {n c : Nat} {l : List Nod} (h : RowN w (.slice A n c) l) : n = l.length ∧ l.length ≤ c ∧ Kd.C k36 w A l.length l := by
  obtain ⟨A', c', e, hc, hC⟩ := h
  cases e
  exact ⟨rfl, hc, hC⟩
theorem RowO.at {w : World} {A : Option Addr} {n c : Nat} {l : List Opn} (h : RowO w (.slice A n c) l) : n = l.length ∧ l.length ≤ c ∧ Kd.C k28 w A l.length l := by
  obtain ⟨A', c', e, hc, hC⟩ := h
  cases e
  exact ⟨rfl, hc, hC⟩
theorem RowN.nil (w : World) : RowN w (.slice none 0 0) [] := ⟨none, 0, rfl, Nat.le_refl _, rfl, by simp, fun h => absurd h (by simp)⟩
theorem RowO.nil (w : World) : RowO w (.slice none 0 0) [] := ⟨none, 0, rfl, Nat.le_refl _, rfl, by simp, fun h => absurd h (by simp)⟩
/-- Where a node stands. -/
def fI (l : List Nod) (s : Stp) : Int := match lk l s with | some x => (x.1 : Int) | none => -1
theorem lk_first {l : List Nod} {s : Stp} : ∀ {i : Nat} (h : i < l.length), (∀ j : Nat, j < i → (l[j]!).f0 ≠ s) → (l[i]!).f0 = s → lk l s = some (i, l[i]!) := by
  induction l with
  | nil => intro i h; simp at h
  | cons x l ih =>
    intro i h h1 h2
    unfold lk
    cases i with
    | zero =>
      have h3 : x.f0 = s := h2
      rw [if_pos (eqS_iff.2 h3.symm)]; rfl
    | succ i =>
      have h3 : x.f0 ≠ s := h1 0 (by omega)
      rw [if_neg (fun e => h3 (eqS_iff.1 e).symm), ih (by simpa using h) (fun j hj => by simpa using h1 (j + 1) (by omega)) (by simpa using h2)]
      simp
theorem lk_nowhere {l : List Nod} {s : Stp} (h : ∀ j : Nat, j < l.length → (l[j]!).f0 ≠ s) : lk l s = none := by
  cases hx : lk l s with
  | none => rfl
  | some x =>
    obtain ⟨i, m⟩ := x
    obtain ⟨h1, h2⟩ := lk_some hx
    obtain ⟨hi, rfl⟩ := List.getElem?_eq_some_iff.1 h1
    exact absurd h2 (by have := h i hi; rw [getElem!_pos l i hi] at this; exact this)
theorem fI_hit {l : List Nod} {s : Stp} {x : Int} (h0 : 0 ≤ x) (h1 : x < l.length) (h : ∀ j : Nat, (j : Int) < x → (l[j]!).f0 ≠ s) (he : (rd_T36 l x).f0 = s) : fI l s = x := by
  obtain ⟨i, rfl⟩ : ∃ i : Nat, x = i := ⟨x.toNat, by omega⟩
  rw [rdN_at l i (by omega)] at he
  unfold fI
  rw [lk_first (by omega) (fun j hj => h j (by omega)) he]
theorem fI_none {l : List Nod} {s : Stp} (h : ∀ j : Nat, (j : Int) < (l.length : Int) → (l[j]!).f0 ≠ s) : fI l s = -1 := by
  unfold fI
  rw [lk_nowhere (fun j hj => h j (by omega))]
theorem fI_more {l : List Nod} {s : Stp} {x : Int} (h0 : 0 ≤ x) (h1 : x < l.length) (h : ∀ j : Nat, (j : Int) < x → (l[j]!).f0 ≠ s) (he : (rd_T36 l x).f0 ≠ s) : ∀ j : Nat, (j : Int) < x + 1 → (l[j]!).f0 ≠ s := by
  intro j hj
  by_cases e : (j : Int) = x
  · subst e
    rw [rdN_at l j (by omega)] at he
    exact he
  · exact h j (by omega)
/-- What it says: a node of the number, where it stands; or that there is none. -/
theorem fI_is (l : List Nod) (s : Stp) : (has l s = true ∧ 0 ≤ fI l s ∧ fI l s < l.length ∧ rd_T36 l (fI l s) = look l s) ∨ (has l s = false ∧ fI l s = -1) := by
  unfold has look fI
  cases hx : lk l s with
  | none => exact .inr ⟨rfl, rfl⟩
  | some x =>
    obtain ⟨i, m⟩ := x
    obtain ⟨h1, h2⟩ := lk_some hx
    obtain ⟨hi, rfl⟩ := List.getElem?_eq_some_iff.1 h1
    exact .inl ⟨rfl, by show (0 : Int) ≤ (i : Int); omega, by show (i : Int) < _; omega, by show rd_T36 l (i : Int) = l[i]; rw [rdN_at l i hi, getElem!_pos l i hi]⟩
theorem stp_ne {a : Stp} {s : Stp} (h : a ≠ s) : (a.f0 == s.f0 && a.f1 == s.f1) = false ∧ (a.f0 = s.f0 ∧ a.f1 = s.f1) = False := ⟨eqS_false h, eq_false (fun e => h (eqS_iff.1 (by unfold eqS; rw [e.1, e.2]; simp)))⟩
set_option maxHeartbeats 4000000 in
set_option maxRecDepth 100000 in
theorem find_calls (w : World) (v : Value) (l : List Nod) (s : Stp) (hr : RowN w v l) (hl : l.length ≤ 1000000) : Calls Tryd.prog 53 #[v, .agg #[.int .i64 s.f0, .int .i64 s.f1]] w fun e w' => e = .returned (.int .i64 (fI l s)) ∧ Below w.heap.size w w' := by
  obtain ⟨A, c, rfl, hc, hC⟩ := hr
  have HC := Aside0.mk hC
  have HL := Aside0.mk hl
  have BX := Aside0.mk (heap_alloc_new w (.cells #[.int .i64 s.f0, .int .i64 s.f1] 25))
  have HB := Aside0.mk (below_alloc (Below.refl w.heap.size w) (.cells #[.int .i64 s.f0, .int .i64 s.f1] 25))
  clear hC hc hl
  go_enter Tryd.func53, Tryd.ntmps53
  go_wp2_with fail
  try go_frame
  go_loopg [5] (l.length + 1) (fun kq p wr => ∃ x : Int, Aside0 ((kq : Int) + x = (l.length : Int) + 1 ∧ 0 ≤ x ∧ x ≤ (l.length : Int)) ∧ p = .int .i64 x ∧ Aside0 (∀ j : Nat, (j : Int) < x → (l[j]!).f0 ≠ s) ∧ Aside0 (wr.heap[w.heap.size]? = some (.cells #[.int .i64 s.f0, .int .i64 s.f1] 25 (0, 0))) ∧ Aside0 (Below w.heap.size w wr))
  case atStart => exact ⟨0, ⟨by omega⟩, rfl, ⟨fun j hj => by omega⟩, BX, HB⟩
  case round =>
    clear BX HB
    obtain ⟨x, HK, rfl, HJ, BX, HB⟩ := hrel
    obtain ⟨k1, rfl⟩ : ∃ k1, gk = k1 + 1 := ⟨((l.length : Int) - x).toNat, by have := HK.out; omega⟩
    have h0 : 0 ≤ x := HK.out.2.1
    by_cases hx : x < (l.length : Int)
    · have b1 : decide (x < (l.length : Int)) = true := decide_eq_true hx
      obtain ⟨ad, e, x0, x1, x2, x3, x4, x5⟩ := at_T36 (Kd.C_below HC.out HB.out) x h0 hx
      cases e
      have p1 := eq_true h0
      have q1 := eq_true hx
      have hw1 : wrap64 (x + 1) = x + 1 := by have := HL.out; unfold wrap64; omega
      have H0 := Aside0.mk h0
      have H1 := Aside0.mk hx
      obtain ⟨y0, y1, _, _⟩ := Z2 BX.out
      clear hx
      go_upto_region 4 with fail
      go_still_tail 6, (by kernel_rfl)
      have HBd := Aside0.mk HB.out.drew
      have BXd := Aside0.mk (show wr.drew.heap[w.heap.size]? = _ from BX.out)
      by_cases he : (rd_T36 l x).f0 = s
      · have HE := Aside0.mk (fI_hit H0.out H1.out HJ.out he)
        have e0 : (rd_T36 l x).f0.f0 = s.f0 := by rw [he]
        have e1 : (rd_T36 l x).f0.f1 = s.f1 := by rw [he]
        clear he
        go_wp2
        go_ret
        exact ⟨by rw [HE.out]; rfl, HBd.out⟩
      · have HN := Aside0.mk (fI_more H0.out H1.out HJ.out he)
        obtain ⟨e0, e1⟩ := stp_ne he
        clear he
        go_wp2
        go_roundg k1
        case measure => exact Nat.lt_succ_self _
        case rel => exact ⟨x + 1, ⟨by have := HK.out; have := H1.out; omega⟩, (by first | rfl | rw [hw1]), HN, BXd, HBd⟩
    · have b1 : decide (x < (l.length : Int)) = false := decide_eq_false hx
      have hxe : x = (l.length : Int) := by have := HK.out; omega
      have HE := Aside0.mk (fI_none (l := l) (s := s) (by have := HJ.out; rw [hxe] at this; exact this))
      clear hx hxe
      go_wp2
      go_ret
      exact ⟨by rw [HE.out]; rfl, HB.out⟩
end Go.Proofs.YtiffeljmeahmkaaDoor.S
/- The document's tree: whether a stamp is a node's, or below it. -/
namespace Go.Proofs.YtiffeljmeahmkaaDoor.S
open Go.RowKit Go.Proofs.YtiffeljmeahmkaaDoorW.PrintWords Go.Proofs.YtiffeljmeahmkaaDoorW.PrintLast Go.Proofs.YtiffeljmeahmkaaDoorW.PrintMore
set_option linter.unusedVariables false
set_option linter.unusedSimpArgs false
attribute [local go_sem high] eqA25
/-- What the document's under says, by so many rounds. -/
def undR (l : List Nod) (id : Stp) : Nat → Stp → Bool
  | 0, _ => true
  | k + 1, s => if eqS s id = true then true else if has l s = true then undR l id k (look l s).f1 else false
theorem und_hit {l : List Nod} {id s : Stp} {k : Nat} (h : s = id) : undR l id (k + 1) s = true := by
  unfold undR; rw [if_pos (eqS_iff.2 h)]
theorem und_no {l : List Nod} {id s : Stp} {k : Nat} (h : s ≠ id) (hh : has l s = false) : undR l id (k + 1) s = false := by
  unfold undR; rw [if_neg (fun e => h (eqS_iff.1 e)), if_neg (by rw [hh]; simp)]
theorem und_on {l : List Nod} {id s : Stp} {k : Nat} (h : s ≠ id) (hh : has l s = true) : undR l id (k + 1) s = undR l id k (look l s).f1 := by
  conv => lhs; unfold undR
  rw [if_neg (fun e => h (eqS_iff.1 e)), if_pos hh]
theorem two_boxes (w : World) (a b : Stp) : ((w.alloc (.cells #[.int .i64 a.f0, .int .i64 a.f1] 25)).alloc (.cells #[.int .i64 b.f0, .int .i64 b.f1] 25)).heap[w.heap.size]? = some (.cells #[.int .i64 a.f0, .int .i64 a.f1] 25) ∧ ((w.alloc (.cells #[.int .i64 a.f0, .int .i64 a.f1] 25)).alloc (.cells #[.int .i64 b.f0, .int .i64 b.f1] 25)).heap[w.heap.size + 1]? = some (.cells #[.int .i64 b.f0, .int .i64 b.f1] 25) ∧ Below w.heap.size w ((w.alloc (.cells #[.int .i64 a.f0, .int .i64 a.f1] 25)).alloc (.cells #[.int .i64 b.f0, .int .i64 b.f1] 25)) := by
  have h1 := heap_alloc_new w (.cells #[.int .i64 a.f0, .int .i64 a.f1] 25)
  have h2 := heap_alloc_new (w.alloc (.cells #[.int .i64 a.f0, .int .i64 a.f1] 25)) (.cells #[.int .i64 b.f0, .int .i64 b.f1] 25)
  have hs : (w.alloc (.cells #[.int .i64 a.f0, .int .i64 a.f1] 25)).heap.size = w.heap.size + 1 := by simp
  rw [hs] at h2
  refine ⟨?_, h2, below_alloc (below_alloc (Below.refl _ _) _) _⟩
  have h3 := (below_alloc (Below.refl (w.alloc (.cells #[.int .i64 a.f0, .int .i64 a.f1] 25)).heap.size (w.alloc (.cells #[.int .i64 a.f0, .int .i64 a.f1] 25))) (.cells #[.int .i64 b.f0, .int .i64 b.f1] 25)).block w.heap.size (by omega)
  rw [h3]
  exact h1
set_option maxHeartbeats 4000000 in
set_option maxRecDepth 100000 in
theorem under_calls (w : World) (v : Value) (l : List Nod) (s id : Stp) (hr : RowN w v l) (hl : l.length ≤ 1000000) : Calls Tryd.prog 69 #[v, .agg #[.int .i64 s.f0, .int .i64 s.f1], .agg #[.int .i64 id.f0, .int .i64 id.f1]] w fun e w' => e = .returned (.bool (undR l id (l.length + 1) s)) ∧ Below w.heap.size w w' := by
  obtain ⟨A, c, rfl, hc, hC⟩ := hr
  have HC := Aside0.mk (show RowN w (.slice A l.length c) l from ⟨A, c, rfl, hc, hC⟩)
  have HL := Aside0.mk hl
  obtain ⟨bx, by_, hb⟩ := two_boxes w s id
  have BX := Aside0.mk bx
  have BY := Aside0.mk by_
  have HB := Aside0.mk hb
  clear hC hc hl bx by_ hb
  go_enter Tryd.func69, Tryd.ntmps69
  go_wp2_with fail
  try go_frame
  go_loopg [7, 8] (l.length + 2) (fun kq p _ wr => ∃ (x : Int) (s' : Stp) (n : Nat), Aside0 (kq = n + 1 ∧ (n : Int) + x = (l.length : Int) + 1 ∧ 0 ≤ x ∧ x ≤ (l.length : Int) + 1) ∧ p = .int .i64 x ∧ Aside0 (undR l id n s' = undR l id (l.length + 1) s) ∧ Aside0 (wr.heap[w.heap.size]? = some (.cells #[.int .i64 s'.f0, .int .i64 s'.f1] 25 (0, 0))) ∧ Aside0 (wr.heap[w.heap.size + 1]? = some (.cells #[.int .i64 id.f0, .int .i64 id.f1] 25 (0, 0))) ∧ Aside0 (Below w.heap.size w wr))
  case atStart => exact ⟨0, s, l.length + 1, ⟨by omega⟩, rfl, ⟨rfl⟩, BX, BY, HB⟩
  case round =>
    clear BX BY HB
    obtain ⟨x, s', n, HK, rfl, HU, BX, BY, HB⟩ := hrel
    obtain ⟨k1, rfl⟩ : ∃ k1, gk = k1 + 1 := ⟨n, HK.out.1⟩
    have h0 : 0 ≤ x := HK.out.2.2.1
    by_cases hx : x ≤ (l.length : Int)
    · have b1 : decide (x ≤ (l.length : Int)) = true := decide_eq_true hx
      obtain ⟨n, rfl⟩ : ∃ n', n = n' + 1 := ⟨n - 1, by have := HK.out; omega⟩
      have q1 := eq_true hx
      have hw1 : wrap64 (x + 1) = x + 1 := by have := HL.out; unfold wrap64; omega
      have H1 := Aside0.mk hx
      obtain ⟨y0, y1, yf0, yf1⟩ := Z2 BX.out
      obtain ⟨z0, z1, _, _⟩ := Z2 BY.out
      clear hx
      by_cases he : s' = id
      · have HE := Aside0.mk (HU.out.symm.trans (und_hit he))
        have e0 : s'.f0 = id.f0 := by rw [he]
        have e1 : s'.f1 = id.f1 := by rw [he]
        clear he
        go_wp2
        go_ret
        exact ⟨by rw [HE.out]; rfl, HB.out⟩
      · have HN := Aside0.mk he
        obtain ⟨e0, e1⟩ := stp_ne he
        clear he
        rcases fI_is l s' with ⟨f1, f2, f3, f4⟩ | ⟨f1, f2⟩
        · have HE := Aside0.mk ((und_on (k := n) HN.out f1).symm.trans HU.out)
          have F4 := Aside0.mk f4
          have F1 := Aside0.mk f1
          have g1 : decide (fI l s' < 0) = false := decide_eq_false (by omega)
          have g2 : (fI l s' < 0) = False := eq_false (by omega)
          have F2 := Aside0.mk f2
          have F3 := Aside0.mk f3
          clear f1 f2 f3 f4
          go_upto_region 9 with (go_at_call 53; refine (find_calls _ _ l s' (HC.out.below HB.out) HL.out).mono ?_; rintro e w2 ⟨rfl, hb2⟩; have HB2 := Aside0.mk (below_then HB.out HB.out.size hb2); have BX2 := Aside0.mk ((hb2.block w.heap.size (blk_lt BX.out)).trans BX.out); have BY2 := Aside0.mk ((hb2.block (w.heap.size + 1) (blk_lt BY.out)).trans BY.out); clear hb2)
          clear y0 y1 yf0 yf1 z0 z1
          obtain ⟨y0, y1, yf0, yf1⟩ := Z2 BX2.out
          obtain ⟨ad, e, x0, x1, x2, x3, x4, x5⟩ := at_T36 (HC.out.below HB2.out).at.2.2 (fI l s') F2.out F3.out
          cases e
          rw [F4.out] at x0 x1 x2 x3 x4 x5
          have p1 := eq_true F2.out
          have p2 := eq_true F3.out
          go_wp2
          go_roundg k1
          case measure => exact Nat.lt_succ_self _
          case rel => exact ⟨x + 1, (look l s').f1, n, ⟨by have := HK.out; have := H1.out; omega⟩, (by first | rfl | rw [hw1]), HE, ⟨blk_set2 BX2.out⟩, ⟨blk_far (blk_far BY2.out (by simp) _) (by simp) _⟩, ⟨below_set (below_set HB2.out (Nat.le_refl _)) (Nat.le_refl _)⟩⟩
        · have HE := Aside0.mk ((und_no (k := n) HN.out f1).symm.trans HU.out)
          have g1 : decide (fI l s' < 0) = true := decide_eq_true (by omega)
          have g2 : (fI l s' < 0) = True := eq_true (by omega)
          clear f1 f2
          go_wp2_with (go_at_call 53; refine (find_calls _ _ l s' (HC.out.below HB.out) HL.out).mono ?_; rintro e w2 ⟨rfl, hb2⟩; have HB2 := Aside0.mk (below_then HB.out HB.out.size hb2); clear hb2)
          go_ret
          exact ⟨by rw [← HE.out]; rfl, HB2.out⟩
    · have b1 : decide (x ≤ (l.length : Int)) = false := decide_eq_false hx
      obtain rfl : n = 0 := by have := HK.out; omega
      have HE := Aside0.mk HU.out
      clear hx
      go_wp2
      go_ret
      exact ⟨by rw [← HE.out]; rfl, HB.out⟩
end Go.Proofs.YtiffeljmeahmkaaDoor.S
/- The document's tree: nodes with one in place of its like, or more. -/
namespace Go.Proofs.YtiffeljmeahmkaaDoor.S
open Go.RowKit Go.Proofs.YtiffeljmeahmkaaDoorW.PrintWords Go.Proofs.YtiffeljmeahmkaaDoorW.PrintLast Go.Proofs.YtiffeljmeahmkaaDoorW.PrintMore
set_option linter.unusedVariables false
set_option linter.unusedSimpArgs false
attribute [local go_sem high] eqA25
/-- A row whose block holds elements of a type. -/
abbrev marksRc_0 : Array Bool := #[false, false, false, false, false, false, false, false, false, false, false, false, false]
abbrev marksRc_1 : Array Bool := #[true, false, false, false, false, false, false, false, false, false, false, false, false]
abbrev marksRc_2 : Array Bool := #[true, true, false, false, false, false, false, false, false, false, false, false, false]
abbrev marksRc_3 : Array Bool := #[true, true, true, false, false, false, false, false, false, false, false, false, false]
abbrev marksRc_4 : Array Bool := #[true, true, true, true, false, false, false, false, false, false, false, false, false]
abbrev marksRc_5 : Array Bool := #[true, true, true, true, true, false, false, false, false, false, false, false, false]
abbrev marksRc_6 : Array Bool := #[true, true, true, true, true, true, false, false, false, false, false, false, false]
abbrev marksRc_7 : Array Bool := #[true, true, true, true, true, true, true, false, false, false, false, false, false]
abbrev marksRc_8 : Array Bool := #[true, true, true, true, true, true, true, true, false, false, false, false, false]
abbrev marksRc_9 : Array Bool := #[true, true, true, true, true, true, true, true, true, false, false, false, false]
abbrev marksRc_10 : Array Bool := #[true, true, true, true, true, true, true, true, true, true, false, false, false]
abbrev marksRc_11 : Array Bool := #[true, true, true, true, true, true, true, true, true, true, true, false, false]
abbrev marksRc_12 : Array Bool := #[true, true, true, true, true, true, true, true, true, true, true, true, false]
abbrev marksRc_13 : Array Bool := #[true, true, true, true, true, true, true, true, true, true, true, true, true]
abbrev marksRc_14 : Array Bool := #[false, false, false, false, false, false, false, false]
abbrev marksRc_15 : Array Bool := #[true, false, false, false, false, false, false, false]
abbrev marksRc_16 : Array Bool := #[true, true, false, false, false, false, false, false]
abbrev marksRc_17 : Array Bool := #[true, true, true, false, false, false, false, false]
abbrev marksRc_18 : Array Bool := #[true, true, true, true, false, false, false, false]
abbrev marksRc_19 : Array Bool := #[true, true, true, true, false, true, false, false]
abbrev marksRc_20 : Array Bool := #[true, true, true, true, true, true, false, false]
abbrev marksRc_21 : Array Bool := #[true, true, true, true, true, true, true, false]
abbrev marksRc_22 : Array Bool := #[true, true, true, true, true, true, true, true]
abbrev marksRc_23 : Array Bool := #[true, true, true, true, true, true, true, false, true, false, false, false, false]
def Typed (w : World) (t : TypeId) (v : Value) : Prop := ∀ A n c, v = .slice (some A) n c → ∃ cs, w.heap[A.block]? = some (.cells cs t (0, 0))
theorem typed_own {w : World} {B t size n : Nat} {v : Value} {xs : List Value} (h : w.ownsRow B t size v n xs) : Typed w t v := by
  intro A m c e
  rcases h.2 with ⟨rfl, _⟩ | ⟨g, cap, cur, rfl, _, hg, _⟩
  · cases e
  · cases e; exact ⟨_, hg⟩
/-- A row whose block is none of before. -/
def Newer (b : Nat) (v : Value) : Prop := ∀ A n c, v = .slice (some A) n c → b ≤ A.block
theorem newer_own {w : World} {b B t size n : Nat} {v : Value} {xs : List Value} (h : w.ownsRow B t size v n xs) (hb : b ≤ B) : Newer b v := by
  intro A m c e
  rcases h.2 with ⟨rfl, _⟩ | ⟨g, cap, cur, rfl, hB, hg, _⟩
  · cases e
  · cases e; exact Nat.le_trans hb hB
theorem Newer.mono {b b' : Nat} {v : Value} (h : Newer b v) (hb : b' ≤ b) : Newer b' v := fun A n c e => Nat.le_trans hb (h A n c e)
/-- A row's block is one of S; or there is nothing in it. -/
def InS (S : Nat → Prop) (v : Value) (e : Prop) : Prop := ∀ A n c, v = .slice (some A) n c → e ∨ S A.block
theorem InS.nil (S : Nat → Prop) (e : Prop) : InS S (.slice none 0 0) e := fun A n c h => by cases h
theorem InS.next {S : Nat → Prop} {b : Nat} {w : World} {t : TypeId} {v v2 : Value} {α : Type} {l l2 : List α} (h : InS S v (l = [])) (ht : (v2 = v ∧ l2 = l) ∨ (Typed w t v2 ∧ Newer b v2)) (hS : ∀ k, b ≤ k → S k) : InS S v2 (l2 = []) := by
  rcases ht with ⟨rfl, rfl⟩ | ⟨_, ht⟩
  · exact h
  · exact fun A n c e => .inr (hS _ (ht A n c e))
theorem Typed.below {w w1 : World} {t : TypeId} {v : Value} (h : Typed w t v) (hb : Below w.heap.size w w1) : Typed w1 t v := fun A n c e => by
  obtain ⟨cs, hc⟩ := h A n c e
  exact ⟨cs, (hb.block _ (blk_lt hc)).trans hc⟩
theorem Typed.set {w : World} {t : TypeId} {v : Value} (h : Typed w t v) (a : Addr) (u : Value) : Typed (w.setCell a u) t v := fun A n c e => by
  obtain ⟨cs, hc⟩ := h A n c e
  by_cases he : a.block = A.block
  · rw [← he] at hc ⊢
    exact ⟨_, by simp only [World.setCell, Array.getElem?_modify, hc]; rfl⟩
  · exact ⟨cs, blk_far hc (fun q => he q.symm) u⟩
/-- A row of nodes that no box lies in: it was there before block b, or its block holds nodes. -/
def RowS (b : Nat) (w : World) (v : Value) (l : List Nod) : Prop := RowN w v l ∧ ∀ A n c, v = .slice (some A) n c → l = [] ∨ A.block < b ∨ ∃ cs, w.heap[A.block]? = some (.cells cs 36 (0, 0))
def RowSO (b : Nat) (w : World) (v : Value) (l : List Opn) : Prop := RowO w v l ∧ ∀ A n c, v = .slice (some A) n c → l = [] ∨ A.block < b ∨ ∃ cs, w.heap[A.block]? = some (.cells cs 28 (0, 0))
theorem RowS.nil (b : Nat) (w : World) : RowS b w (.slice none 0 0) [] := ⟨RowN.nil w, fun A n c e => by cases e⟩
theorem RowSO.nil (b : Nat) (w : World) : RowSO b w (.slice none 0 0) [] := ⟨RowO.nil w, fun A n c e => by cases e⟩
theorem RowS.of {b : Nat} {w : World} {v : Value} {l : List Nod} (h : RowN w v l) (ht : Typed w 36 v) : RowS b w v l := ⟨h, fun A n c e => .inr (.inr (ht A n c e))⟩
theorem RowSO.of {b : Nat} {w : World} {v : Value} {l : List Opn} (h : RowO w v l) (ht : Typed w 28 v) : RowSO b w v l := ⟨h, fun A n c e => .inr (.inr (ht A n c e))⟩
theorem RowS.below {b : Nat} {w w1 : World} {v : Value} {l : List Nod} (h : RowS b w v l) (hb : Below w.heap.size w w1) : RowS b w1 v l :=
  ⟨h.1.below hb, fun A n c e => (h.2 A n c e).imp id (fun q => q.imp id (fun ⟨cs, hc⟩ => ⟨cs, (hb.block _ (blk_lt hc)).trans hc⟩))⟩
theorem RowSO.below {b : Nat} {w w1 : World} {v : Value} {l : List Opn} (h : RowSO b w v l) (hb : Below w.heap.size w w1) : RowSO b w1 v l :=
  ⟨h.1.below hb, fun A n c e => (h.2 A n c e).imp id (fun q => q.imp id (fun ⟨cs, hc⟩ => ⟨cs, (hb.block _ (blk_lt hc)).trans hc⟩))⟩
theorem cell_apart {w : World} {a p : Addr} (h : a.block ≠ p.block) (u : Value) : (w.setCell p u).cell? a = w.cell? a := by
  unfold World.cell? World.setCell
  simp only [Array.getElem?_modify]
  rw [if_neg (fun e => h e.symm)]
theorem add_block (a : Addr) (n : Nat) : (a.add n).block = a.block := by unfold Addr.add; split <;> rfl
theorem RowS.set {b : Nat} {w : World} {v : Value} {l : List Nod} (h : RowS b w v l) {g : Nat} {t : TypeId} {cs : Array Value} (hb : b ≤ g) (hg : w.heap[g]? = some (.cells cs t (0, 0))) (ht : t ≠ 36) (j : Nat) (u : Value) : RowS b (w.setCell ⟨g, j, none⟩ u) v l := by
  obtain ⟨⟨A, c, e, hc, h1, h2, h3⟩, hq⟩ := h
  have hne : ∀ ad, A = some ad → l ≠ [] → ad.block ≠ g := by
    rintro ad rfl hl hx
    rcases hq ad _ _ e with q | q | ⟨cs', q⟩
    · exact hl q
    · omega
    · rw [hx, hg] at q; cases q; exact ht rfl
  refine ⟨⟨A, c, e, hc, h1, h2, fun hp => ?_⟩, fun A' n' c' e' => ?_⟩
  · obtain ⟨ad, ea, hcl⟩ := h3 hp
    have hx := hne ad ea (fun q => by rw [q] at hp; simp at hp)
    refine ⟨ad, ea, fun i q hj => ?_⟩
    obtain ⟨cs', k1, k2, k3⟩ := hcl i q hj
    have ek := k36_open k2
    exact ⟨cs', k1, by rw [ek]; exact k36_mk _ q, fun i' u' hu => by rw [cell_apart (by rw [add_block]; exact hx)]; exact k3 i' u' hu⟩
  · rcases hq A' n' c' e' with q | q | q
    · exact .inl q
    · exact .inr (.inl q)
    · refine .inr (.inr ?_)
      obtain ⟨cs', q⟩ := q
      refine ⟨cs', blk_far q (fun hx => ?_) u⟩
      have hx : A'.block = g := hx
      rw [hx, hg] at q; cases q; exact ht rfl
theorem RowSO.set {b : Nat} {w : World} {v : Value} {l : List Opn} (h : RowSO b w v l) {g : Nat} {t : TypeId} {cs : Array Value} (hb : b ≤ g) (hg : w.heap[g]? = some (.cells cs t (0, 0))) (ht : t ≠ 28) (j : Nat) (u : Value) : RowSO b (w.setCell ⟨g, j, none⟩ u) v l := by
  obtain ⟨⟨A, c, e, hc, h1, h2, h3⟩, hq⟩ := h
  have hne : ∀ ad, A = some ad → l ≠ [] → ad.block ≠ g := by
    rintro ad rfl hl hx
    rcases hq ad _ _ e with q | q | ⟨cs', q⟩
    · exact hl q
    · omega
    · rw [hx, hg] at q; cases q; exact ht rfl
  refine ⟨⟨A, c, e, hc, h1, h2, fun hp => ?_⟩, fun A' n' c' e' => ?_⟩
  · obtain ⟨ad, ea, hcl⟩ := h3 hp
    have hx := hne ad ea (fun q => by rw [q] at hp; simp at hp)
    refine ⟨ad, ea, fun i q hj => ?_⟩
    obtain ⟨cs', k1, k2, k3⟩ := hcl i q hj
    have ek := k28_open k2
    exact ⟨cs', k1, by rw [ek]; exact k28_mk _ q, fun i' u' hu => by rw [cell_apart (by rw [add_block]; exact hx)]; exact k3 i' u' hu⟩
  · rcases hq A' n' c' e' with q | q | q
    · exact .inl q
    · exact .inr (.inl q)
    · refine .inr (.inr ?_)
      obtain ⟨cs', q⟩ := q
      refine ⟨cs', blk_far q (fun hx => ?_) u⟩
      have hx : A'.block = g := hx
      rw [hx, hg] at q; cases q; exact ht rfl
theorem infoNd : (Tryd.prog.info? 36).map (fun i => (i.zero, i.size, i.bytes)) = some (some (.agg #[.int .i64 0, .int .i64 0, .int .i64 0, .int .i64 0, .string ⟨#[]⟩, .string ⟨#[]⟩]), 6, 64) := by kernel_rfl
theorem appN_run {w : World} {B : Nat} {v : Value} {l : List Nod} (h : NodesAt w B v l) (hB : B ≤ w.heap.size) (ad : Addr) (c : Nat) (ns : List Nod) (hv : ∀ j u, (flatN ns)[j]? = some u → w.cell? (ad.add j) = some u) (hl : l.length + ns.length ≤ 1000001) (ty : TypeId) :
    ∃ v' w', (Builtin.append_ #[48, 48] ty #[v, .slice (some ad) ns.length c]).run Tryd.prog w = .ok v' w' ∧ NodesAt w' B v' (l ++ ns) ∧ (∀ g j, g < B → w'.cell? ⟨g, j, none⟩ = w.cell? ⟨g, j, none⟩) ∧ (∀ g, g < B → w'.heap[g]? = w.heap[g]?) ∧ (∀ {b w0}, Below b w0 w → b ≤ B → Below b w0 w') := by
  obtain ⟨i0, hi, hz⟩ := Option.map_eq_some_iff.1 infoNd
  simp only [Prod.mk.injEq] at hz
  obtain ⟨hz0, hz1, hz2⟩ := hz
  obtain ⟨v', w', hrun, ho, hg, _, hat⟩ := run_append_own_at (P := Tryd.prog) w B 48 ty 36 i0 _ 6 64 Tryd.underlying48 hi hz0 hz1 hz2 rfl (by decide) v l.length (flatN l) h ad ns.length c (flatN ns) (flatN_length ns) hv
    (fun u hu => by
      unfold flatN at hu
      obtain ⟨o, _, ho⟩ := List.mem_flatMap.1 hu
      exact nodC_one o u ho) (by simp only [maxLen]; omega) (by omega) hB
  have hblk : ∀ g, g < B → w'.heap[g]? = w.heap[g]? := fun g hgB => hg.block g (by omega) (fun e => by have := (h.lt g e.symm).1; omega)
  refine ⟨v', w', hrun, ?_, fun g j hgB => ?_, hblk, fun {b w0} hb hbB => ?_⟩
  · show w'.ownsRow B 36 6 v' (l ++ ns).length (flatN (l ++ ns))
    rw [List.length_append, flatN_append]
    exact ho
  · unfold World.cell?
    rw [hblk g hgB]
  · exact hb.trans ⟨hg.os, hg.tape, hg.output, hg.size, fun k hk => hblk k (by omega)⟩
section
variable {ops : Array Oper} {rest : List Oper} {oo : Oper} {a : Act} {Q : Exit → Act → World → Prop} {w : World}
theorem wl_appN {B : Nat} {v : Value} {l : List Nod} (ad : Addr) (c : Nat) (ns : List Nod) (s x : Operand) (hop : oo.op = .call { callee := .builtin .append, args := #[s, x], argTypes := #[48, 48] }) (hs : a.eval s = v) (hx : a.eval x = .slice (some ad) ns.length c)
    (h0 : NodesAt w B v l) (hB : B ≤ w.heap.size) (hv : ∀ j u, (flatN ns)[j]? = some u → w.cell? (ad.add j) = some u) (hl : l.length + ns.length ≤ 1000001)
    (h : ∀ v' w', NodesAt w' B v' (l ++ ns) → (∀ g, g < B → w'.heap[g]? = w.heap[g]?) → (∀ {b w0}, Below b w0 w → b ≤ B → Below b w0 w') → wpList Tryd.prog ops Q rest (a.put oo.dst v') w') (hg : oo.guard = none := by rfl) : wpList Tryd.prog ops Q (oo :: rest) a w := by
  refine wpList_plain hg fun K' hK' => ?_
  obtain ⟨v', w', hrun, h1, _, h2, h3⟩ := appN_run h0 hB ad c ns hv hl oo.type
  unfold Oper.wp execOp
  simp only [hop, resolve, invoke, builtin, Sem.run_bind, Sem.run_pure, Result.andThen_ok, List.map_toArray, List.map_cons, List.map_nil, hs, hx, hrun]
  exact hK' _ _ (h v' w' h1 h2 h3)
end
theorem box_cells (W : World) (x : Nod) : ∀ j u, (flatN [x])[j]? = some u → (W.alloc (.cells #[.int .i64 x.f0.f0, .int .i64 x.f0.f1, .int .i64 x.f1.f0, .int .i64 x.f1.f1, .string x.f2, .string x.f3] 36)).cell? ((⟨W.heap.size, 0, none⟩ : Addr).add j) = some u := by
  intro j u hj
  have h := blk_cell (heap_alloc_new W (.cells #[.int .i64 x.f0.f0, .int .i64 x.f0.f1, .int .i64 x.f1.f0, .int .i64 x.f1.f1, .string x.f2, .string x.f3] 36)) j
  rw [show (⟨W.heap.size, 0, none⟩ : Addr).add j = ⟨W.heap.size, j, none⟩ by unfold Addr.add; split <;> simp_all, h, ← hj]
  simp [flatN, nodC]
/-- What with makes: a round, and the whole. -/
def wT (n : Nod) (st : List Nod × Bool) (x : Nod) : List Nod × Bool := if (!st.2 && !lessB x.f0 n.f0) = true then (st.1 ++ [n], true) else st
def wS (n : Nod) (st : List Nod × Bool) (x : Nod) : List Nod × Bool := if eqS x.f0 n.f0 = true then wT n st x else ((wT n st x).1 ++ [x], (wT n st x).2)
theorem wT_done (n : Nod) (o : List Nod) (x : Nod) : wT n (o, true) x = (o, true) := rfl
theorem wT_less {n x : Nod} (o : List Nod) (h : lessB x.f0 n.f0 = true) : wT n (o, false) x = (o, false) := by unfold wT; rw [h]; rfl
theorem wT_here {n x : Nod} (o : List Nod) (h : lessB x.f0 n.f0 = false) : wT n (o, false) x = (o ++ [n], true) := by unfold wT; rw [h]; rfl
theorem wS_hit {n x : Nod} {st t : List Nod × Bool} (h : wT n st x = t) (e : x.f0 = n.f0) : wS n st x = t := by unfold wS; rw [if_pos (eqS_iff.2 e)]; exact h
theorem wS_no {n x : Nod} {st t : List Nod × Bool} (h : wT n st x = t) (e : x.f0 ≠ n.f0) : wS n st x = (t.1 ++ [x], t.2) := by unfold wS; rw [if_neg (fun q => e (eqS_iff.1 q)), h]
def wF (l : List Nod) (n : Nod) : List Nod × Bool := l.foldl (wS n) ([], false)
def withR (l : List Nod) (n : Nod) : List Nod := if (wF l n).2 = true then (wF l n).1 else (wF l n).1 ++ [n]
theorem wS_len (n : Nod) (st : List Nod × Bool) (x : Nod) : (wS n st x).1.length ≤ st.1.length + 2 := by
  have ht : (wT n st x).1.length ≤ st.1.length + 1 := by unfold wT; split <;> simp
  unfold wS
  split
  · omega
  · rw [List.length_append, List.length_cons, List.length_nil]; omega
theorem wF_step (l : List Nod) (n : Nod) (i : Nat) (h : i < l.length) : wF (l.take (i + 1)) n = wS n (wF (l.take i) n) (l[i]!) := by
  unfold wF
  rw [List.take_add_one, List.foldl_append, List.getElem?_eq_getElem h, getElem!_pos l i h]
  rfl
theorem wF_len (n : Nod) : ∀ (l : List Nod) (st : List Nod × Bool), (l.foldl (wS n) st).1.length ≤ st.1.length + 2 * l.length
  | [], st => by simp
  | x :: l, st => by
    have h1 := wF_len n l (wS n st x)
    have h2 := wS_len n st x
    rw [List.foldl_cons, List.length_cons]
    omega
theorem wF_le (l : List Nod) (n : Nod) : (wF l n).1.length ≤ 2 * l.length := by
  have := wF_len n l ([], false)
  simpa [wF] using this
theorem ne_off {a s : Stp} (h : a = s) : (!a.f0 == s.f0 || !a.f1 == s.f1) = false := by subst h; simp
theorem ne_on {a s : Stp} (h : a ≠ s) : (!a.f0 == s.f0 || !a.f1 == s.f1) = true := by have := eqS_false h; unfold eqS at this; rw [← Bool.not_and, this]; rfl
theorem lt_same {w w' : World} {g : Nat} {cs : Array Value} {t : TypeId} (h : w.heap[g]? = some (.cells cs t (0, 0))) (he : w'.heap[g]? = w.heap[g]?) : w'.heap[g]? = some (.cells cs t (0, 0)) := he.trans h
-- TABLE BEGIN
def with_.T6 : Bool × List (List Nat × List Nat) := (true, [([], []), ([0], [0]), ([1], [1]), ([2], [2]), ([2], [2]), ([3, 4, 2], [2, 3, 4]), ([5, 2], [2, 5]), ([6, 2], [2, 6]), ([2], [2]), ([8, 2], [2, 8]), ([7, 9, 2, 2], [2, 7, 9]), ([10, 2], [2, 10]), ([2, 11], [2, 11])])
def with_.B6 : List Nat := [0, 1, 3, 7, 7, 31, 63, 127, 7, 263, 1023, 2047, 4095]
theorem with_.tab6 : rtab .any (opsOf Tryd.f68 6) = with_.T6 := by kernel_rfl
theorem with_.bits6 : waitsOk with_.T6.2 with_.B6 = true := by kernel_rfl
def with_.T9 : Bool × List (List Nat × List Nat) := (true, [([], []), ([], []), ([0, 1], [0, 1]), ([2], [2]), ([3], [3]), ([], []), ([5], [5]), ([4, 6], [4, 6])])
def with_.B9 : List Nat := [0, 0, 3, 7, 15, 0, 32, 127]
theorem with_.tab9 : rtab .any (opsOf Tryd.f68 9) = with_.T9 := by kernel_rfl
theorem with_.bits9 : waitsOk with_.T9.2 with_.B9 = true := by kernel_rfl
-- TABLE END
set_option maxHeartbeats 8000000 in
set_option maxRecDepth 100000 in
theorem with_calls (w : World) (v : Value) (l : List Nod) (n : Nod) (hr : RowN w v l) (hl : l.length ≤ 100000) : Calls Tryd.prog 68 #[v, .agg #[.int .i64 n.f0.f0, .int .i64 n.f0.f1, .int .i64 n.f1.f0, .int .i64 n.f1.f1, .string n.f2, .string n.f3]] w fun e w' => ∃ v', e = .returned v' ∧ RowN w' v' (withR l n) ∧ (Typed w' 36 v' ∧ Newer w.heap.size v') ∧ Below w.heap.size w w' := by
  have hu := Tryd.underlying36
  have hu1 := Tryd.underlying25
  obtain ⟨A, c, rfl, hc, hC⟩ := hr
  have HC := Aside0.mk (show RowN w (.slice A l.length c) l from ⟨A, c, rfl, hc, hC⟩)
  have HL := Aside0.mk hl
  have BX := Aside0.mk (heap_alloc_new w (.cells #[.int .i64 n.f0.f0, .int .i64 n.f0.f1, .int .i64 n.f1.f0, .int .i64 n.f1.f1, .string n.f2, .string n.f3] 36))
  have HB := Aside0.mk (below_alloc (Below.refl w.heap.size w) (.cells #[.int .i64 n.f0.f0, .int .i64 n.f0.f1, .int .i64 n.f1.f0, .int .i64 n.f1.f1, .string n.f2, .string n.f3] 36))
  clear hC hc hl
  go_enter Tryd.func68, Tryd.ntmps68
  go_wp2_with fail
  try go_frame
  go_loopg [5, 6, 7] (l.length + 1) (fun kq po pd p wr => ∃ (x : Int) (vo : Value), Aside0 ((kq : Int) + x = (l.length : Int) + 1 ∧ 0 ≤ x ∧ x ≤ (l.length : Int)) ∧ p = .int .i64 x ∧ po = vo ∧ pd = .bool (wF (l.take x.toNat) n).2 ∧ Aside0 (NodesAt wr (w.heap.size + 1) vo (wF (l.take x.toNat) n).1) ∧ Aside0 (wr.heap[w.heap.size]? = some (.cells #[.int .i64 n.f0.f0, .int .i64 n.f0.f1, .int .i64 n.f1.f0, .int .i64 n.f1.f1, .string n.f2, .string n.f3] 36 (0, 0))) ∧ Aside0 (Below w.heap.size w wr))
  case atStart => exact ⟨0, _, ⟨by omega⟩, rfl, rfl, rfl, ⟨World.ownsRow_nil _ _ _ _⟩, BX, HB⟩
  case round =>
    clear BX HB
    obtain ⟨x, vo, HK, rfl, rfl, rfl, HO, BX, HB⟩ := hrel
    obtain ⟨k1, rfl⟩ : ∃ k1, gk = k1 + 1 := ⟨((l.length : Int) - x).toNat, by have := HK.out; omega⟩
    have h0 : 0 ≤ x := HK.out.2.1
    by_cases hx : x < (l.length : Int)
    · have b1 : decide (x < (l.length : Int)) = true := decide_eq_true hx
      have HS := Aside0.mk (show wF (l.take (x + 1).toNat) n = wS n (wF (l.take x.toNat) n) (rd_T36 l x) by have h1 := wF_step l n x.toNat (by omega); have h2 := rdN_at l x.toNat (by omega); rw [Int.toNat_of_nonneg h0] at h2; rw [h2, ← h1, show (x + 1).toNat = x.toNat + 1 by omega])
      have HZ := Aside0.mk (show (wF (l.take x.toNat) n).1.length ≤ 200000 by have := wF_le (l.take x.toNat) n; have := HL.out; rw [List.length_take] at *; omega)
      generalize wF (l.take x.toNat) n = st at HS HZ HO ⊢
      obtain ⟨o, d⟩ := st
      replace HZ := Aside0.mk (show o.length ≤ 200001 by have h_ : o.length ≤ 200000 := HZ.out; omega)
      obtain ⟨ad, e, x0, x1, x2, x3, x4, x5⟩ := at_T36 (HC.out.below HB.out).at.2.2 x h0 hx
      cases e
      have p1 := eq_true h0
      have q1 := eq_true hx
      have hw1 : wrap64 (x + 1) = x + 1 := by have := HL.out; unfold wrap64; omega
      have H1 := Aside0.mk hx
      have H0 := Aside0.mk h0
      obtain ⟨y0, y1, y2, y3, y4, y5, yf⟩ := Z6 BX.out
      clear hx
      have HLS := Aside0.mk (ref10_less (rd_T36 l x).f0 n.f0)
      cases d with
      | true =>
        go_upto_region 6 with fail
        replace HO := Aside0.mk (show NodesAt wr.drew (w.heap.size + 1) _ o from HO.out)
        replace BX := Aside0.mk (blk_below BX.out (Below.refl _ _).drew)
        replace HB := Aside0.mk HB.out.drew
        clear y0 y1 y2 y3 y4 y5 yf
        obtain ⟨y0, y1, y2, y3, y4, y5, yf⟩ := Z6 BX.out
        obtain ⟨ad2, e, x0, x1, x2, x3, x4, x5⟩ := at_T36 (HC.out.below HB.out).at.2.2 x H0.out H1.out
        cases e
        -- REGION W6F BEGIN
        refine start_ (n := 13) (S := fun w' => True) (ds := []) marksRc_0 (by kernel_rfl) rfl rfl trivial (fun hHeld => ?_)
        refine with_tabW with_.tab6 with_.bits6 (fun HT_ HW_ => ?_)
        refine pureQ (i := 0) (N := some 14) marksRc_1 (any_of HT_.out (by kernel_rfl)) ?_
        refine pureQ (i := 1) (N := some 15) marksRc_2 (any_of HT_.out (by kernel_rfl)) ?_
        refine pureQ (i := 2) (N := some 16) marksRc_3 (any_of HT_.out (by kernel_rfl)) ?_
        refine pure_ (i := 3) (N := some 17) (v := undef) (a' := ?_) marksRc_4 rfl rfl (any_of HT_.out (by kernel_rfl)) (fun _ _ _ h => h) (Or.inr ⟨by rfl, rfl⟩) ?_ ?_
        rotate_left
        · simp only [Act.put, List.setIfInBounds_toArray, List.set_cons_zero, List.set_cons_succ, i64_w, i32_w]
          rfl
        refine pure_ (i := 4) (N := some 18) (v := undef) (a' := ?_) marksRc_5 rfl rfl (any_of HT_.out (by kernel_rfl)) (fun _ _ _ h => h) (Or.inr ⟨by rfl, rfl⟩) ?_ ?_
        rotate_left
        · simp only [Act.put, List.setIfInBounds_toArray, List.set_cons_zero, List.set_cons_succ, i64_w, i32_w]
          rfl
        refine pure_ (i := 5) (N := some 19) (v := undef) (a' := ?_) marksRc_6 rfl rfl (any_of HT_.out (by kernel_rfl)) (fun _ _ _ h => h) (Or.inr ⟨by rfl, rfl⟩) ?_ ?_
        rotate_left
        · simp only [Act.put, List.setIfInBounds_toArray, List.set_cons_zero, List.set_cons_succ, i64_w, i32_w]
          rfl
        refine pure_ (i := 6) (N := some 20) (v := undef) (a' := ?_) marksRc_7 rfl rfl (any_of HT_.out (by kernel_rfl)) (fun _ _ _ h => h) (Or.inr ⟨by rfl, rfl⟩) ?_ ?_
        rotate_left
        · simp only [Act.put, List.setIfInBounds_toArray, List.set_cons_zero, List.set_cons_succ, i64_w, i32_w]
          rfl
        refine pure_ (i := 7) (N := some 21) (v := undef) (a' := ?_) marksRc_8 rfl rfl (any_of HT_.out (by kernel_rfl)) (fun _ _ _ h => h) (Or.inr ⟨by rfl, rfl⟩) ?_ ?_
        rotate_left
        · simp only [Act.put, List.setIfInBounds_toArray, List.set_cons_zero, List.set_cons_succ, i64_w, i32_w]
          rfl
        refine pure_ (i := 8) (N := some 22) (v := undef) (a' := ?_) marksRc_9 rfl rfl (any_of HT_.out (by kernel_rfl)) (fun _ _ _ h => h) (Or.inr ⟨by rfl, rfl⟩) ?_ ?_
        rotate_left
        · simp only [Act.put, List.setIfInBounds_toArray, List.set_cons_zero, List.set_cons_succ, i64_w, i32_w]
          rfl
        refine pure_ (i := 9) (N := some 23) (v := undef) (a' := ?_) marksRc_10 rfl rfl (any_of HT_.out (by kernel_rfl)) (fun _ _ _ h => h) (Or.inr ⟨by rfl, rfl⟩) ?_ ?_
        rotate_left
        · simp only [Act.put, List.setIfInBounds_toArray, List.set_cons_zero, List.set_cons_succ, i64_w, i32_w]
          rfl
        refine pure_ (i := 10) (N := some 24) (v := undef) (a' := ?_) marksRc_11 rfl rfl (any_of HT_.out (by kernel_rfl)) (fun _ _ _ h => h) (Or.inr ⟨by rfl, rfl⟩) ?_ ?_
        rotate_left
        · simp only [Act.put, List.setIfInBounds_toArray, List.set_cons_zero, List.set_cons_succ, i64_w, i32_w]
          rfl
        refine pure_ (i := 11) (N := some 25) (v := undef) (a' := ?_) marksRc_12 rfl rfl (any_of HT_.out (by kernel_rfl)) (fun _ _ _ h => h) (Or.inr ⟨by rfl, rfl⟩) ?_ ?_
        rotate_left
        · simp only [Act.put, List.setIfInBounds_toArray, List.set_cons_zero, List.set_cons_succ, i64_w, i32_w]
          rfl
        refine pureQ (i := 12) (N := some 26) marksRc_13 (any_of HT_.out (by kernel_rfl)) ?_
        refine done_ (done_of HT_.out (by kernel_rfl)) ?_

-- REGION END
        clear y0 y1 y2 y3 y4 y5 yf x0 x1 x2 x3 x4 x5
        go_upto_region 9 with fail
        have HT0 := wT_done n o (rd_T36 l x)
        have HT := Aside0.mk (show wT n _ (rd_T36 l x) = (o, true) from HT0)
        clear HT0
        replace BX := Aside0.mk (blk_below BX.out (Below.refl _ _).drew)
        replace HB := Aside0.mk HB.out.drew
        obtain ⟨y0, y1, y2, y3, y4, y5, yf⟩ := Z6 BX.out
        obtain ⟨ad2, e, x0, x1, x2, x3, x4, x5⟩ := at_T36 (HC.out.below HB.out).at.2.2 x H0.out H1.out
        cases e
        -- REGION W9 BEGIN
        refine start_ (n := 8) (S := fun w' => w'.cell? (ad.add (x.toNat * 6)) = some (.int .i64 (rd_T36 l x).f0.f0) ∧ w'.cell? ⟨(ad.add (x.toNat * 6)).block, (ad.add (x.toNat * 6)).off + 1, none⟩ = some (.int .i64 (rd_T36 l x).f0.f1) ∧ w'.cell? ⟨w.heap.size, 0, none⟩ = some (.int .i64 n.f0.f0) ∧ w'.cell? ⟨w.heap.size, 1, none⟩ = some (.int .i64 n.f0.f1)) (ds := []) marksRc_14 (by kernel_rfl) rfl rfl ⟨x0, x1, y0, y1⟩ (fun hHeld => ?_)
        refine with_tabW with_.tab9 with_.bits9 (fun HT_ HW_ => ?_)
        refine pureQ (i := 0) (N := some 31) marksRc_15 (any_of HT_.out (by kernel_rfl)) ?_
        refine pureQ (i := 1) (N := some 32) marksRc_16 (any_of HT_.out (by kernel_rfl)) ?_
        refine pureQ (i := 2) (N := some 33) marksRc_17 (any_of HT_.out (by kernel_rfl)) ?_
        refine pureQ (i := 3) (N := some 34) marksRc_18 (any_of HT_.out (by kernel_rfl)) ?_
        refine pureQ (i := 5) (N := some 36) marksRc_19 (any_of HT_.out (by kernel_rfl)) ?_
        refine take_ (i := 4) (N := some 35) (v := ?_) (a' := ?_) marksRc_20 rfl rfl (take_ofW HT_.out HW_.out (by kernel_rfl)) (fun _ _ _ h => h) (Or.inl ⟨by rfl, ?_⟩) hHeld ?_ ?_
        rotate_left
        · rintro w' ⟨s0, s1, s2, s3⟩
          go_simp
          with_reducible rfl
        rotate_left
        · simp only [Act.put, List.setIfInBounds_toArray, List.set_cons_zero, List.set_cons_succ, i64_w, i32_w]
          rfl
        refine take_ (i := 6) (N := some 37) (v := ?_) (a' := ?_) marksRc_21 rfl rfl (take_ofW HT_.out HW_.out (by kernel_rfl)) (fun _ _ _ h => h) (Or.inl ⟨by rfl, ?_⟩) hHeld ?_ ?_
        rotate_left
        · rintro w' ⟨s0, s1, s2, s3⟩
          go_simp
          with_reducible rfl
        rotate_left
        · simp only [Act.put, List.setIfInBounds_toArray, List.set_cons_zero, List.set_cons_succ, i64_w, i32_w]
          rfl
        refine pureQ (i := 7) (N := some 38) marksRc_22 (any_of HT_.out (by kernel_rfl)) ?_
        refine done_ (done_of HT_.out (by kernel_rfl)) ?_

-- REGION END
        replace HO := Aside0.mk (HO.out.below (Below.refl _ _).drew)
        by_cases he : (rd_T36 l x).f0 = n.f0
        · have HE := Aside0.mk (HS.out.trans (wS_hit HT.out he))
          rw [ne_off he]
          clear he
          go_wp2
          go_roundg k1
          case measure => exact Nat.lt_succ_self _
          case rel => exact ⟨x + 1, _, ⟨by have := HK.out; have := H1.out; omega⟩, (by first | rfl | rw [hw1]), rfl, (by rw [HE.out]), ⟨by rw [HE.out]; exact HO.out⟩, BX, HB⟩
        · have HE := Aside0.mk (HS.out.trans (wS_no HT.out he))
          rw [ne_on he]
          clear he
          go_wp2_with (at_builtin; refine wl_appN ⟨_, 0, none⟩ 1 [rd_T36 l x] _ _ rfl rfl rfl (HO.out.alloc _) (by have := HB.out.size; simp at this ⊢; omega) (box_cells _ _) (by have := HZ.out; simp at this ⊢; omega) ?_; intro v1 w1 h1 h2 h3; have HO1 := Aside0.mk h1; have BX1 := Aside0.mk (lt_same (blk_below BX.out (below_alloc (Below.refl _ _) _)) (h2 _ (Nat.lt_succ_self _))); have HB1 := Aside0.mk (h3 (below_alloc HB.out _) (Nat.le_succ _)); clear h1 h2 h3)
          go_roundg k1
          case measure => exact Nat.lt_succ_self _
          case rel => exact ⟨x + 1, _, ⟨by have := HK.out; have := H1.out; omega⟩, (by first | rfl | rw [hw1]), rfl, (by rw [HE.out]), ⟨by rw [HE.out]; exact HO1.out⟩, BX1, HB1⟩
      | false =>
        generalize hle : lessB (rd_T36 l x).f0 n.f0 = le at HLS
        cases le with
        | true =>
          go_upto_region 6 with fail
          replace HO := Aside0.mk (show NodesAt wr.drew (w.heap.size + 1) _ o from HO.out)
          replace BX := Aside0.mk (blk_below BX.out (Below.refl _ _).drew)
          replace HB := Aside0.mk HB.out.drew
          clear y0 y1 y2 y3 y4 y5 yf
          obtain ⟨y0, y1, y2, y3, y4, y5, yf⟩ := Z6 BX.out
          obtain ⟨ad2, e, x0, x1, x2, x3, x4, x5⟩ := at_T36 (HC.out.below HB.out).at.2.2 x H0.out H1.out
          cases e
          -- REGION W6T BEGIN
          refine start_ (n := 13) (S := fun w' => w'.cell? (ad.add (x.toNat * 6)) = some (.int .i64 (rd_T36 l x).f0.f0) ∧ w'.cell? ⟨(ad.add (x.toNat * 6)).block, (ad.add (x.toNat * 6)).off + 1, none⟩ = some (.int .i64 (rd_T36 l x).f0.f1) ∧ w'.cell? ⟨w.heap.size, 0, none⟩ = some (.int .i64 n.f0.f0) ∧ w'.cell? ⟨w.heap.size, 1, none⟩ = some (.int .i64 n.f0.f1)) (ds := [10]) marksRc_0 (by kernel_rfl) rfl rfl ⟨x0, x1, y0, y1⟩ (fun hHeld => ?_)
          refine with_tabW with_.tab6 with_.bits6 (fun HT_ HW_ => ?_)
          refine pureQ (i := 0) (N := some 14) marksRc_1 (any_of HT_.out (by kernel_rfl)) ?_
          refine pureQ (i := 1) (N := some 15) marksRc_2 (any_of HT_.out (by kernel_rfl)) ?_
          refine pureQ (i := 2) (N := some 16) marksRc_3 (any_of HT_.out (by kernel_rfl)) ?_
          refine pureQ (i := 3) (N := some 17) marksRc_4 (any_of HT_.out (by kernel_rfl)) ?_
          refine pureQ (i := 4) (N := some 18) marksRc_5 (any_of HT_.out (by kernel_rfl)) ?_
          refine pureQ (i := 5) (N := some 19) marksRc_6 (any_of HT_.out (by kernel_rfl)) ?_
          refine pureQ (i := 6) (N := some 20) marksRc_7 (any_of HT_.out (by kernel_rfl)) ?_
          refine pureQ (i := 8) (N := some 22) marksRc_23 (any_of HT_.out (by kernel_rfl)) ?_
          refine take_ (i := 7) (N := some 21) (v := ?_) (a' := ?_) marksRc_9 rfl rfl (take_ofW HT_.out HW_.out (by kernel_rfl)) (fun _ _ _ h => h) (Or.inl ⟨by rfl, ?_⟩) hHeld ?_ ?_
          rotate_left
          · rintro w' ⟨s0, s1, s2, s3⟩
            go_simp
            with_reducible rfl
          rotate_left
          · simp only [Act.put, List.setIfInBounds_toArray, List.set_cons_zero, List.set_cons_succ, i64_w, i32_w]
            rfl
          refine take_ (i := 9) (N := some 23) (v := ?_) (a' := ?_) marksRc_10 rfl rfl (take_ofW HT_.out HW_.out (by kernel_rfl)) (fun _ _ _ h => h) (Or.inl ⟨by rfl, ?_⟩) hHeld ?_ ?_
          rotate_left
          · rintro w' ⟨s0, s1, s2, s3⟩
            go_simp
            with_reducible rfl
          rotate_left
          · simp only [Act.put, List.setIfInBounds_toArray, List.set_cons_zero, List.set_cons_succ, i64_w, i32_w]
            rfl
          refine last_ (i := 10) (N := some 24) marksRc_11 rfl rfl (one_of HT_.out (by kernel_rfl)) (by decide) (fun K hK => ?_)
          refine goes_ Tryd.func18 (by kernel_rfl) rfl #[.agg #[.int .i64 (rd_T36 l x).f0.f0, .int .i64 (rd_T36 l x).f0.f1], .agg #[.int .i64 n.f0.f0, .int .i64 n.f0.f1]] (by rfl) rfl rfl (by simp only [List.map_toArray, List.map_cons, List.map_nil]; rfl) ?_
          with_reducible refine (samphireref10_Less.calls _ _ _ _ _ _ HLS.out).mono ?_
          rintro e w5 ⟨rfl, hb⟩
          refine ⟨_, rfl, ?_⟩
          replace HO := Aside0.mk (HO.out.below hb)
          replace BX := Aside0.mk (blk_below BX.out hb)
          replace HB := Aside0.mk (below_then HB.out HB.out.size hb)
          clear hb
          refine hK.out _ _ ?_
          clear hK K
          refine norm_ (a' := ?_) ?_ ?_
          rotate_left
          · show Act.put _ (some 24) _ = _
            simp only [Act.put, List.setIfInBounds_toArray, List.set_cons_zero, List.set_cons_succ, i64_w, i32_w]
            rfl
          refine pureQ (i := 11) (N := some 25) marksRc_12 (any_of HT_.out (by kernel_rfl)) ?_
          refine pureQ (i := 12) (N := some 26) marksRc_13 (any_of HT_.out (by kernel_rfl)) ?_
          refine done_ (done_of HT_.out (by kernel_rfl)) ?_

-- REGION END
          clear y0 y1 y2 y3 y4 y5 yf x0 x1 x2 x3 x4 x5
          have HT0 := wT_less o hle
          clear hle
          go_upto_region 9 with fail
          have HT := Aside0.mk (show wT n _ (rd_T36 l x) = (o, false) from HT0)
          clear HT0
          replace BX := Aside0.mk (blk_below BX.out (Below.refl _ _).drew)
          replace HB := Aside0.mk HB.out.drew
          obtain ⟨y0, y1, y2, y3, y4, y5, yf⟩ := Z6 BX.out
          obtain ⟨ad2, e, x0, x1, x2, x3, x4, x5⟩ := at_T36 (HC.out.below HB.out).at.2.2 x H0.out H1.out
          cases e
          -- REGION W9 BEGIN
          refine start_ (n := 8) (S := fun w' => w'.cell? (ad.add (x.toNat * 6)) = some (.int .i64 (rd_T36 l x).f0.f0) ∧ w'.cell? ⟨(ad.add (x.toNat * 6)).block, (ad.add (x.toNat * 6)).off + 1, none⟩ = some (.int .i64 (rd_T36 l x).f0.f1) ∧ w'.cell? ⟨w.heap.size, 0, none⟩ = some (.int .i64 n.f0.f0) ∧ w'.cell? ⟨w.heap.size, 1, none⟩ = some (.int .i64 n.f0.f1)) (ds := []) marksRc_14 (by kernel_rfl) rfl rfl ⟨x0, x1, y0, y1⟩ (fun hHeld => ?_)
          refine with_tabW with_.tab9 with_.bits9 (fun HT_ HW_ => ?_)
          refine pureQ (i := 0) (N := some 31) marksRc_15 (any_of HT_.out (by kernel_rfl)) ?_
          refine pureQ (i := 1) (N := some 32) marksRc_16 (any_of HT_.out (by kernel_rfl)) ?_
          refine pureQ (i := 2) (N := some 33) marksRc_17 (any_of HT_.out (by kernel_rfl)) ?_
          refine pureQ (i := 3) (N := some 34) marksRc_18 (any_of HT_.out (by kernel_rfl)) ?_
          refine pureQ (i := 5) (N := some 36) marksRc_19 (any_of HT_.out (by kernel_rfl)) ?_
          refine take_ (i := 4) (N := some 35) (v := ?_) (a' := ?_) marksRc_20 rfl rfl (take_ofW HT_.out HW_.out (by kernel_rfl)) (fun _ _ _ h => h) (Or.inl ⟨by rfl, ?_⟩) hHeld ?_ ?_
          rotate_left
          · rintro w' ⟨s0, s1, s2, s3⟩
            go_simp
            with_reducible rfl
          rotate_left
          · simp only [Act.put, List.setIfInBounds_toArray, List.set_cons_zero, List.set_cons_succ, i64_w, i32_w]
            rfl
          refine take_ (i := 6) (N := some 37) (v := ?_) (a' := ?_) marksRc_21 rfl rfl (take_ofW HT_.out HW_.out (by kernel_rfl)) (fun _ _ _ h => h) (Or.inl ⟨by rfl, ?_⟩) hHeld ?_ ?_
          rotate_left
          · rintro w' ⟨s0, s1, s2, s3⟩
            go_simp
            with_reducible rfl
          rotate_left
          · simp only [Act.put, List.setIfInBounds_toArray, List.set_cons_zero, List.set_cons_succ, i64_w, i32_w]
            rfl
          refine pureQ (i := 7) (N := some 38) marksRc_22 (any_of HT_.out (by kernel_rfl)) ?_
          refine done_ (done_of HT_.out (by kernel_rfl)) ?_

-- REGION END
          replace HO := Aside0.mk (HO.out.below (Below.refl _ _).drew)
          by_cases he : (rd_T36 l x).f0 = n.f0
          · have HE := Aside0.mk (HS.out.trans (wS_hit HT.out he))
            rw [ne_off he]
            clear he
            go_wp2
            go_roundg k1
            case measure => exact Nat.lt_succ_self _
            case rel => exact ⟨x + 1, _, ⟨by have := HK.out; have := H1.out; omega⟩, (by first | rfl | rw [hw1]), rfl, (by rw [HE.out]), ⟨by rw [HE.out]; exact HO.out⟩, BX, HB⟩
          · have HE := Aside0.mk (HS.out.trans (wS_no HT.out he))
            rw [ne_on he]
            clear he
            go_wp2_with (at_builtin; refine wl_appN ⟨_, 0, none⟩ 1 [rd_T36 l x] _ _ rfl rfl rfl (HO.out.alloc _) (by have := HB.out.size; simp at this ⊢; omega) (box_cells _ _) (by have := HZ.out; simp at this ⊢; omega) ?_; intro v1 w1 h1 h2 h3; have HO1 := Aside0.mk h1; have BX1 := Aside0.mk (lt_same (blk_below BX.out (below_alloc (Below.refl _ _) _)) (h2 _ (Nat.lt_succ_self _))); have HB1 := Aside0.mk (h3 (below_alloc HB.out _) (Nat.le_succ _)); clear h1 h2 h3)
            go_roundg k1
            case measure => exact Nat.lt_succ_self _
            case rel => exact ⟨x + 1, _, ⟨by have := HK.out; have := H1.out; omega⟩, (by first | rfl | rw [hw1]), rfl, (by rw [HE.out]), ⟨by rw [HE.out]; exact HO1.out⟩, BX1, HB1⟩
        | false =>
          go_upto_region 6 with fail
          replace HO := Aside0.mk (show NodesAt wr.drew (w.heap.size + 1) _ o from HO.out)
          replace BX := Aside0.mk (blk_below BX.out (Below.refl _ _).drew)
          replace HB := Aside0.mk HB.out.drew
          clear y0 y1 y2 y3 y4 y5 yf
          obtain ⟨y0, y1, y2, y3, y4, y5, yf⟩ := Z6 BX.out
          obtain ⟨ad2, e, x0, x1, x2, x3, x4, x5⟩ := at_T36 (HC.out.below HB.out).at.2.2 x H0.out H1.out
          cases e
          -- REGION W6T BEGIN
          refine start_ (n := 13) (S := fun w' => w'.cell? (ad.add (x.toNat * 6)) = some (.int .i64 (rd_T36 l x).f0.f0) ∧ w'.cell? ⟨(ad.add (x.toNat * 6)).block, (ad.add (x.toNat * 6)).off + 1, none⟩ = some (.int .i64 (rd_T36 l x).f0.f1) ∧ w'.cell? ⟨w.heap.size, 0, none⟩ = some (.int .i64 n.f0.f0) ∧ w'.cell? ⟨w.heap.size, 1, none⟩ = some (.int .i64 n.f0.f1)) (ds := [10]) marksRc_0 (by kernel_rfl) rfl rfl ⟨x0, x1, y0, y1⟩ (fun hHeld => ?_)
          refine with_tabW with_.tab6 with_.bits6 (fun HT_ HW_ => ?_)
          refine pureQ (i := 0) (N := some 14) marksRc_1 (any_of HT_.out (by kernel_rfl)) ?_
          refine pureQ (i := 1) (N := some 15) marksRc_2 (any_of HT_.out (by kernel_rfl)) ?_
          refine pureQ (i := 2) (N := some 16) marksRc_3 (any_of HT_.out (by kernel_rfl)) ?_
          refine pureQ (i := 3) (N := some 17) marksRc_4 (any_of HT_.out (by kernel_rfl)) ?_
          refine pureQ (i := 4) (N := some 18) marksRc_5 (any_of HT_.out (by kernel_rfl)) ?_
          refine pureQ (i := 5) (N := some 19) marksRc_6 (any_of HT_.out (by kernel_rfl)) ?_
          refine pureQ (i := 6) (N := some 20) marksRc_7 (any_of HT_.out (by kernel_rfl)) ?_
          refine pureQ (i := 8) (N := some 22) marksRc_23 (any_of HT_.out (by kernel_rfl)) ?_
          refine take_ (i := 7) (N := some 21) (v := ?_) (a' := ?_) marksRc_9 rfl rfl (take_ofW HT_.out HW_.out (by kernel_rfl)) (fun _ _ _ h => h) (Or.inl ⟨by rfl, ?_⟩) hHeld ?_ ?_
          rotate_left
          · rintro w' ⟨s0, s1, s2, s3⟩
            go_simp
            with_reducible rfl
          rotate_left
          · simp only [Act.put, List.setIfInBounds_toArray, List.set_cons_zero, List.set_cons_succ, i64_w, i32_w]
            rfl
          refine take_ (i := 9) (N := some 23) (v := ?_) (a' := ?_) marksRc_10 rfl rfl (take_ofW HT_.out HW_.out (by kernel_rfl)) (fun _ _ _ h => h) (Or.inl ⟨by rfl, ?_⟩) hHeld ?_ ?_
          rotate_left
          · rintro w' ⟨s0, s1, s2, s3⟩
            go_simp
            with_reducible rfl
          rotate_left
          · simp only [Act.put, List.setIfInBounds_toArray, List.set_cons_zero, List.set_cons_succ, i64_w, i32_w]
            rfl
          refine last_ (i := 10) (N := some 24) marksRc_11 rfl rfl (one_of HT_.out (by kernel_rfl)) (by decide) (fun K hK => ?_)
          refine goes_ Tryd.func18 (by kernel_rfl) rfl #[.agg #[.int .i64 (rd_T36 l x).f0.f0, .int .i64 (rd_T36 l x).f0.f1], .agg #[.int .i64 n.f0.f0, .int .i64 n.f0.f1]] (by rfl) rfl rfl (by simp only [List.map_toArray, List.map_cons, List.map_nil]; rfl) ?_
          with_reducible refine (samphireref10_Less.calls _ _ _ _ _ _ HLS.out).mono ?_
          rintro e w5 ⟨rfl, hb⟩
          refine ⟨_, rfl, ?_⟩
          replace HO := Aside0.mk (HO.out.below hb)
          replace BX := Aside0.mk (blk_below BX.out hb)
          replace HB := Aside0.mk (below_then HB.out HB.out.size hb)
          clear hb
          refine hK.out _ _ ?_
          clear hK K
          refine norm_ (a' := ?_) ?_ ?_
          rotate_left
          · show Act.put _ (some 24) _ = _
            simp only [Act.put, List.setIfInBounds_toArray, List.set_cons_zero, List.set_cons_succ, i64_w, i32_w]
            rfl
          refine pureQ (i := 11) (N := some 25) marksRc_12 (any_of HT_.out (by kernel_rfl)) ?_
          refine pureQ (i := 12) (N := some 26) marksRc_13 (any_of HT_.out (by kernel_rfl)) ?_
          refine done_ (done_of HT_.out (by kernel_rfl)) ?_

-- REGION END
          clear y0 y1 y2 y3 y4 y5 yf
          have HT0 := wT_here o hle
          clear hle
          obtain ⟨y0, y1, y2, y3, y4, y5, yf⟩ := Z6 BX.out
          go_upto_region 9 with (at_builtin; refine wl_appN ⟨_, 0, none⟩ 1 [n] _ _ rfl rfl rfl (HO.out.alloc _) (by have := HB.out.size; simp at this ⊢; omega) (box_cells _ _) (by have := HZ.out; simp at this ⊢; omega) ?_; intro v1 w1 h1 h2 h3; replace HO := Aside0.mk h1; replace BX := Aside0.mk (lt_same (blk_below BX.out (below_alloc (Below.refl _ _) _)) (h2 _ (Nat.lt_succ_self _))); replace HB := Aside0.mk (h3 (below_alloc HB.out _) (Nat.le_succ _)); replace HZ := Aside0.mk (show (o ++ [n]).length ≤ 200002 by have := HZ.out; simp at this ⊢; omega); clear h1 h2 h3)
          clear y0 y1 y2 y3 y4 y5 yf x0 x1 x2 x3 x4 x5
          have HT := Aside0.mk (show wT n _ (rd_T36 l x) = (o ++ [n], true) from HT0)
          clear HT0
          replace BX := Aside0.mk (blk_below BX.out (Below.refl _ _).drew)
          replace HB := Aside0.mk HB.out.drew
          obtain ⟨y0, y1, y2, y3, y4, y5, yf⟩ := Z6 BX.out
          obtain ⟨ad2, e, x0, x1, x2, x3, x4, x5⟩ := at_T36 (HC.out.below HB.out).at.2.2 x H0.out H1.out
          cases e
          -- REGION W9 BEGIN
          refine start_ (n := 8) (S := fun w' => w'.cell? (ad.add (x.toNat * 6)) = some (.int .i64 (rd_T36 l x).f0.f0) ∧ w'.cell? ⟨(ad.add (x.toNat * 6)).block, (ad.add (x.toNat * 6)).off + 1, none⟩ = some (.int .i64 (rd_T36 l x).f0.f1) ∧ w'.cell? ⟨w.heap.size, 0, none⟩ = some (.int .i64 n.f0.f0) ∧ w'.cell? ⟨w.heap.size, 1, none⟩ = some (.int .i64 n.f0.f1)) (ds := []) marksRc_14 (by kernel_rfl) rfl rfl ⟨x0, x1, y0, y1⟩ (fun hHeld => ?_)
          refine with_tabW with_.tab9 with_.bits9 (fun HT_ HW_ => ?_)
          refine pureQ (i := 0) (N := some 31) marksRc_15 (any_of HT_.out (by kernel_rfl)) ?_
          refine pureQ (i := 1) (N := some 32) marksRc_16 (any_of HT_.out (by kernel_rfl)) ?_
          refine pureQ (i := 2) (N := some 33) marksRc_17 (any_of HT_.out (by kernel_rfl)) ?_
          refine pureQ (i := 3) (N := some 34) marksRc_18 (any_of HT_.out (by kernel_rfl)) ?_
          refine pureQ (i := 5) (N := some 36) marksRc_19 (any_of HT_.out (by kernel_rfl)) ?_
          refine take_ (i := 4) (N := some 35) (v := ?_) (a' := ?_) marksRc_20 rfl rfl (take_ofW HT_.out HW_.out (by kernel_rfl)) (fun _ _ _ h => h) (Or.inl ⟨by rfl, ?_⟩) hHeld ?_ ?_
          rotate_left
          · rintro w' ⟨s0, s1, s2, s3⟩
            go_simp
            with_reducible rfl
          rotate_left
          · simp only [Act.put, List.setIfInBounds_toArray, List.set_cons_zero, List.set_cons_succ, i64_w, i32_w]
            rfl
          refine take_ (i := 6) (N := some 37) (v := ?_) (a' := ?_) marksRc_21 rfl rfl (take_ofW HT_.out HW_.out (by kernel_rfl)) (fun _ _ _ h => h) (Or.inl ⟨by rfl, ?_⟩) hHeld ?_ ?_
          rotate_left
          · rintro w' ⟨s0, s1, s2, s3⟩
            go_simp
            with_reducible rfl
          rotate_left
          · simp only [Act.put, List.setIfInBounds_toArray, List.set_cons_zero, List.set_cons_succ, i64_w, i32_w]
            rfl
          refine pureQ (i := 7) (N := some 38) marksRc_22 (any_of HT_.out (by kernel_rfl)) ?_
          refine done_ (done_of HT_.out (by kernel_rfl)) ?_

-- REGION END
          replace HO := Aside0.mk (HO.out.below (Below.refl _ _).drew)
          by_cases he : (rd_T36 l x).f0 = n.f0
          · have HE := Aside0.mk (HS.out.trans (wS_hit HT.out he))
            rw [ne_off he]
            clear he
            go_wp2
            go_roundg k1
            case measure => exact Nat.lt_succ_self _
            case rel => exact ⟨x + 1, _, ⟨by have := HK.out; have := H1.out; omega⟩, (by first | rfl | rw [hw1]), rfl, (by rw [HE.out]), ⟨by rw [HE.out]; exact HO.out⟩, BX, HB⟩
          · have HE := Aside0.mk (HS.out.trans (wS_no HT.out he))
            rw [ne_on he]
            clear he
            go_wp2_with (at_builtin; refine wl_appN ⟨_, 0, none⟩ 1 [rd_T36 l x] _ _ rfl rfl rfl (HO.out.alloc _) (by have := HB.out.size; simp at this ⊢; omega) (box_cells _ _) (by have := HZ.out; simp at this ⊢; omega) ?_; intro v1 w1 h1 h2 h3; have HO1 := Aside0.mk h1; have BX1 := Aside0.mk (lt_same (blk_below BX.out (below_alloc (Below.refl _ _) _)) (h2 _ (Nat.lt_succ_self _))); have HB1 := Aside0.mk (h3 (below_alloc HB.out _) (Nat.le_succ _)); clear h1 h2 h3)
            go_roundg k1
            case measure => exact Nat.lt_succ_self _
            case rel => exact ⟨x + 1, _, ⟨by have := HK.out; have := H1.out; omega⟩, (by first | rfl | rw [hw1]), rfl, (by rw [HE.out]), ⟨by rw [HE.out]; exact HO1.out⟩, BX1, HB1⟩
    · have b1 : decide (x < (l.length : Int)) = false := decide_eq_false hx
      have hx2 : x = (l.length : Int) := by have := HK.out; omega
      have hF : wF (l.take x.toNat) n = wF l n := by rw [hx2, show ((l.length : Int)).toNat = l.length by omega, List.take_length]
      rw [hF] at HO ⊢
      have HR := Aside0.mk (show withR l n = if (wF l n).2 = true then (wF l n).1 else (wF l n).1 ++ [n] from rfl)
      have HZ := Aside0.mk (show (wF l n).1.length ≤ 200000 by have := wF_le l n; have := HL.out; omega)
      generalize wF l n = st at HO HR HZ ⊢
      obtain ⟨o, d⟩ := st
      clear hx hx2 hF
      obtain ⟨y0, y1, y2, y3, y4, y5, yf⟩ := Z6 BX.out
      cases d with
      | true =>
        go_wp2
        go_ret
        obtain ⟨A', c', e', hle, hC'⟩ := NodesAt.reads HO.out
        exact ⟨_, rfl, by rw [HR.out]; exact ⟨A', c', e', hle, hC'⟩, ⟨typed_own HO.out, newer_own HO.out (Nat.le_succ _)⟩, HB.out⟩
      | false =>
        go_wp2_with (at_builtin; refine wl_appN ⟨_, 0, none⟩ 1 [n] _ _ rfl rfl rfl (HO.out.alloc _) (by have := HB.out.size; simp at this ⊢; omega) (box_cells _ _) (by have h_ : o.length ≤ 200000 := HZ.out; simp; omega) ?_; intro v1 w1 h1 h2 h3; have HO1 := Aside0.mk h1; have HB1 := Aside0.mk (h3 (below_alloc HB.out _) (Nat.le_succ _)); clear h1 h2 h3)
        go_ret
        obtain ⟨A', c', e', hle, hC'⟩ := NodesAt.reads HO1.out
        exact ⟨_, rfl, by rw [HR.out]; exact ⟨A', c', e', hle, hC'⟩, ⟨typed_own HO1.out, newer_own HO1.out (Nat.le_succ _)⟩, HB1.out⟩
end Go.Proofs.YtiffeljmeahmkaaDoor.S
/- The document's tree: nodes behind an operation. -/
namespace Go.Proofs.YtiffeljmeahmkaaDoor.S
open Go.RowKit Go.Proofs.YtiffeljmeahmkaaDoorW.PrintWords Go.Proofs.YtiffeljmeahmkaaDoorW.PrintLast Go.Proofs.YtiffeljmeahmkaaDoorW.PrintMore
set_option linter.unusedVariables false
set_option linter.unusedSimpArgs false
attribute [local go_sem high] eqA25
/-- What the document's Do makes of nodes. -/
def parR (o : Opn) : Stp := if o.f0 = 5 then ⟨0, 1⟩ else o.f3
def thereR (l : List Nod) (o : Opn) : Bool := (parR o).f0 == 0 || has l (parR o)
def doR (l : List Nod) (o : Opn) : List Nod :=
  if o.f0 = 1 then (if (has l o.f2 || !thereR l o) = true then l else withR l ⟨o.f2, parR o, o.f4, ⟨#[]⟩⟩)
  else if has l o.f2 = false then l
  else if o.f0 = 3 then withR l ⟨(look l o.f2).f0, (look l o.f2).f1, o.f4, (look l o.f2).f3⟩
  else if o.f0 = 4 then withR l ⟨(look l o.f2).f0, (look l o.f2).f1, (look l o.f2).f2, o.f5⟩
  else if (!thereR l o || undR l o.f2 (l.length + 1) (parR o)) = true then l
  else withR l ⟨(look l o.f2).f0, parR o, (look l o.f2).f2, (look l o.f2).f3⟩
abbrev opCells (o : Opn) : Array Value := #[.int .i64 o.f0, .int .i64 o.f1.f0, .int .i64 o.f1.f1, .int .i64 o.f2.f0, .int .i64 o.f2.f1, .int .i64 o.f3.f0, .int .i64 o.f3.f1, .string o.f4, .string o.f5]
abbrev opVal (o : Opn) : Value := .agg #[.int .i64 o.f0, .int .i64 o.f1.f0, .int .i64 o.f1.f1, .int .i64 o.f2.f0, .int .i64 o.f2.f1, .int .i64 o.f3.f0, .int .i64 o.f3.f1, .string o.f4, .string o.f5]
abbrev lkB (x : Nod) : Obj := .cells #[.int .i64 x.f0.f0, .int .i64 x.f0.f1, .int .i64 x.f1.f0, .int .i64 x.f1.f1, .string x.f2, .string x.f3] 36
set_option maxHeartbeats 8000000 in
set_option maxRecDepth 100000 in
theorem Do_calls (w : World) (v : Value) (l : List Nod) (o : Opn) (hr : RowN w v l) (hl : l.length ≤ 100000) : Calls Tryd.prog 51 #[v, opVal o] w fun e w' => ∃ v', e = .returned v' ∧ RowN w' v' (doR l o) ∧ ((v' = v ∧ doR l o = l) ∨ (Typed w' 36 v' ∧ Newer w.heap.size v')) ∧ Below w.heap.size w w' := by
  have hu := Tryd.underlying36
  have hu1 := Tryd.underlying25
  have hu2 := Tryd.underlying28
  obtain ⟨A, c, rfl, hc, hC⟩ := hr
  have HC := Aside0.mk (show RowN w (.slice A l.length c) l from ⟨A, c, rfl, hc, hC⟩)
  have HL := Aside0.mk hl
  have HL2 := Aside0.mk (show l.length ≤ 1000000 by omega)
  have BO := Aside0.mk (heap_alloc_new w (.cells (opCells o) 28))
  have HB := Aside0.mk (below_alloc (Below.refl w.heap.size w) (.cells (opCells o) 28))
  clear hC hc hl
  go_enter Tryd.func51, Tryd.ntmps51
  go_upto_region 2 with (go_at_call 53; refine (find_calls _ _ l o.f2 (HC.out.below HB.out) HL2.out).mono ?_; rintro e w2 ⟨rfl, hb2⟩; replace BO := Aside0.mk (blk_below BO.out hb2); replace HB := Aside0.mk (below_then HB.out HB.out.size hb2); clear hb2)
  obtain ⟨y0, y1, y2, y3, y4, y5, y6, y7, y8, yf⟩ := Z9 BO.out
  go_upto_region 3 with fail
  have BP := Aside0.mk (heap_alloc_new w2 (.cells #[.int .i64 o.f3.f0, .int .i64 o.f3.f1] 25))
  have hp : w.heap.size < w2.heap.size := blk_lt BO.out
  replace BO := Aside0.mk (blk_below BO.out (below_alloc (Below.refl _ _) (.cells #[.int .i64 o.f3.f0, .int .i64 o.f3.f1] 25)))
  replace HB := Aside0.mk (below_alloc HB.out (.cells #[.int .i64 o.f3.f0, .int .i64 o.f3.f1] 25))
  generalize w2.alloc (.cells #[.int .i64 o.f3.f0, .int .i64 o.f3.f1] 25) = w3 at BP BO HB ⊢
  generalize w2.heap.size = pb at BP hp ⊢
  clear y0 y1 y2 y3 y4 y5 y6 y7 y8 yf
  obtain ⟨z0, z1, zf0, zf1⟩ := Z2 BP.out
  obtain ⟨y0, y1, y2, y3, y4, y5, y6, y7, y8, yf⟩ := Z9 BO.out
  by_cases hk5 : o.f0 = 5
  · have HP := Aside0.mk (show parR o = ⟨0, 1⟩ by unfold parR; rw [if_pos hk5])
    have HT := Aside0.mk (show thereR l o = true by unfold thereR; rw [HP.out]; rfl)
    go_upto_region 5 with fail
    replace BP := Aside0.mk (blk_set2 (d0 := .int .i64 (0 : Int)) (d1 := .int .i64 (1 : Int)) BP.out)
    replace BO := Aside0.mk (blk_far (p := ⟨pb, 1, none⟩) (blk_far (p := ⟨pb, 0, none⟩) BO.out (show w.heap.size ≠ pb by omega) (.int .i64 (0 : Int))) (show w.heap.size ≠ pb by omega) (.int .i64 (1 : Int)))
    replace HB := Aside0.mk (below_set (g := pb) (below_set (g := pb) HB.out (by omega) (j := 0) (v := .int .i64 (0 : Int))) (by omega) (j := 1) (v := .int .i64 (1 : Int)))
    generalize (w3.setCell ⟨pb, 0, none⟩ (.int .i64 (0 : Int))).setCell ⟨pb, 1, none⟩ (.int .i64 (1 : Int)) = w4 at BP BO HB ⊢
    clear z0 z1 zf0 zf1
    obtain ⟨z0, z1, zf0, zf1⟩ := Z2 BP.out
    clear y0 y1 y2 y3 y4 y5 y6 y7 y8 yf
    obtain ⟨y0, y1, y2, y3, y4, y5, y6, y7, y8, yf⟩ := Z9 BO.out
    go_upto_region 6 with fail
    clear z0 z1 zf0 zf1
    obtain ⟨P, hP⟩ : ∃ P : Stp, P = ⟨0, 1⟩ := ⟨_, rfl⟩
    replace BP := Aside0.mk (show w4.heap[pb]? = some (.cells #[.int .i64 P.f0, .int .i64 P.f1] 25 (0, 0)) by rw [hP]; exact BP.out)
    replace HP := Aside0.mk (show parR o = P by rw [hP]; exact HP.out)
    clear hP
    obtain ⟨z0, z1, zf0, zf1⟩ := Z2 BP.out
    have n1 := decide_eq_false (show ¬ o.f0 = 1 by omega)
    have m1 := eq_false (show ¬ o.f0 = 1 by omega)
    have b1 : (o.f0 == 1) = false := beq_eq_false_iff_ne.2 (by omega)
    have n3 := decide_eq_false (show ¬ o.f0 = 3 by omega)
    have m3 := eq_false (show ¬ o.f0 = 3 by omega)
    have b3 : (o.f0 == 3) = false := beq_eq_false_iff_ne.2 (by omega)
    have n4 := decide_eq_false (show ¬ o.f0 = 4 by omega)
    have m4 := eq_false (show ¬ o.f0 = 4 by omega)
    have b4 : (o.f0 == 4) = false := beq_eq_false_iff_ne.2 (by omega)
    rcases fI_is l o.f2 with ⟨f1, f2, f3, f4⟩ | ⟨f1, f2⟩
    · have HH := Aside0.mk f1
      have HE := Aside0.mk (show doR l o = if (!thereR l o || undR l o.f2 (l.length + 1) (parR o)) = true then l else withR l ⟨(look l o.f2).f0, parR o, (look l o.f2).f2, (look l o.f2).f3⟩ by unfold doR; rw [if_neg (of_eq_false m1), if_neg (by rw [f1]; decide), if_neg (of_eq_false m3), if_neg (of_eq_false m4)])
      rw [HP.out, HT.out] at HE
      have g0 : decide (fI l o.f2 < 0) = false := decide_eq_false (by omega)
      have g1 : (fI l o.f2 < 0) = False := eq_false (by omega)
      have g2 : (0 ≤ fI l o.f2) = True := eq_true (by omega)
      have g3 : decide (0 ≤ fI l o.f2) = true := decide_eq_true (by omega)
      have g4 : (fI l o.f2 < (l.length : Int)) = True := eq_true (by omega)
      have F1 := Aside0.mk f1
      have F2 := Aside0.mk f2
      have F3 := Aside0.mk f3
      have F4 := Aside0.mk f4
      clear f1 f2 f3 f4
      obtain ⟨ad, e, x0, x1, x2, x3, x4, x5⟩ := at_T36 (HC.out.below HB.out).at.2.2 (fI l o.f2) F2.out F3.out
      cases e
      rw [F4.out] at x0 x1 x2 x3 x4 x5
      go_upto_region 13 with fail
      have BN := Aside0.mk (heap_alloc_new w4 (lkB (look l o.f2)))
      have hn : pb < w4.heap.size := blk_lt BP.out
      replace BO := Aside0.mk (blk_below BO.out (below_alloc (Below.refl _ _) (lkB (look l o.f2))))
      replace BP := Aside0.mk (blk_below BP.out (below_alloc (Below.refl _ _) (lkB (look l o.f2))))
      replace HB := Aside0.mk (below_alloc HB.out (lkB (look l o.f2)))
      generalize w4.alloc (lkB (look l o.f2)) = w6 at BN BO BP HB ⊢
      generalize w4.heap.size = nb at BN hn ⊢
      clear x0 x1 x2 x3 x4 x5 z0 z1 zf0 zf1
      clear y0 y1 y2 y3 y4 y5 y6 y7 y8 yf
      obtain ⟨y0, y1, y2, y3, y4, y5, y6, y7, y8, yf⟩ := Z9 BO.out
      obtain ⟨z0, z1, zf0, zf1⟩ := Z2 BP.out
      obtain ⟨v0, v1, v2, v3, v4, v5, vf0, vf1, vf2, vf3, vf4, vf5⟩ := Z6 BN.out
      have hnb : w.heap.size ≤ nb := by omega
      cases hun : undR l o.f2 (l.length + 1) P with
      | true =>
        have HE2 := Aside0.mk (show doR l o = l by rw [HE.out, hun]; rfl)
        go_wp2_with (go_at_call 69; refine (under_calls _ _ l P o.f2 (HC.out.below HB.out) HL2.out).mono ?_; rintro e w5 ⟨rfl, hb5⟩; have BO5 := Aside0.mk (blk_below BO.out hb5); have BP5 := Aside0.mk (blk_below BP.out hb5); have BN5 := Aside0.mk (blk_below BN.out hb5); have HB5 := Aside0.mk (below_then HB.out HB.out.size hb5); clear hb5)
        go_ret
        exact ⟨_, rfl, by rw [HE2.out]; exact HC.out.below HB5.out, .inl ⟨rfl, HE2.out⟩, HB5.out⟩
      | false =>
        have HE2 := Aside0.mk (show doR l o = withR l ⟨(look l o.f2).f0, P, (look l o.f2).f2, (look l o.f2).f3⟩ by rw [HE.out, hun]; rfl)
        go_upto_region 16 with (go_at_call 69; refine (under_calls _ _ l P o.f2 (HC.out.below HB.out) HL2.out).mono ?_; rintro e w5 ⟨rfl, hb5⟩; have BO5 := Aside0.mk (blk_below BO.out hb5); have BP5 := Aside0.mk (blk_below BP.out hb5); have BN5 := Aside0.mk (blk_below BN.out hb5); have HB5 := Aside0.mk (below_then HB.out HB.out.size hb5); clear hb5)
        clear v0 v1 v2 v3 v4 v5 vf0 vf1 vf2 vf3 vf4 vf5 z0 z1 zf0 zf1
        obtain ⟨z0, z1, zf0, zf1⟩ := Z2 BP5.out
        obtain ⟨v0, v1, v2, v3, v4, v5, vf0, vf1, vf2, vf3, vf4, vf5⟩ := Z6 BN5.out
        go_upto_region 21 with fail
        replace BN := Aside0.mk (blk_put (blk_put BN5.out 2 (.int .i64 P.f0) rfl) 3 (.int .i64 P.f1) rfl)
        replace HB := Aside0.mk (below_set (below_set HB5.out hnb (j := 2) (v := .int .i64 P.f0)) hnb (j := 3) (v := .int .i64 P.f1))
        generalize (w5.setCell ⟨nb, 2, none⟩ (.int .i64 P.f0)).setCell ⟨nb, 3, none⟩ (.int .i64 P.f1) = w7 at BN HB ⊢
        clear v0 v1 v2 v3 v4 v5 vf0 vf1 vf2 vf3 vf4 vf5
        obtain ⟨v0, v1, v2, v3, v4, v5, vf0, vf1, vf2, vf3, vf4, vf5⟩ := Z6 BN.out
        go_wp2_with (go_at_call 68; refine (with_calls _ _ l ⟨(look l o.f2).f0, P, (look l o.f2).f2, (look l o.f2).f3⟩ (HC.out.below HB.out) HL.out).mono ?_; rintro e w9 ⟨v9, rfl, hr9, ht9, hb9⟩; have HR9 := Aside0.mk hr9; have HT9 := Aside0.mk ht9; have HB9 := Aside0.mk (below_then HB.out HB.out.size hb9); clear hr9 ht9 hb9)
        go_ret
        exact ⟨_, rfl, by rw [HE2.out]; exact HR9.out, .inr ⟨HT9.out.1, HT9.out.2.mono HB.out.size⟩, HB9.out⟩
    · have HE := Aside0.mk (show doR l o = l by unfold doR; rw [if_neg (show ¬ o.f0 = 1 by omega), if_pos f1])
      clear f1
      go_wp2
      go_ret
      exact ⟨_, rfl, by rw [HE.out]; exact HC.out.below HB.out, .inl ⟨rfl, HE.out⟩, HB.out⟩
  · have k5 := decide_eq_false hk5
    have l5 := eq_false hk5
    have b5 : (o.f0 == 5) = false := beq_eq_false_iff_ne.2 hk5
    have HP0 := Aside0.mk (show parR o = o.f3 by unfold parR; rw [if_neg hk5])
    clear hk5
    by_cases hz : o.f3.f0 = 0
    · have HT := Aside0.mk (show thereR l o = true by unfold thereR; rw [HP0.out, hz]; rfl)
      go_upto_region 6 with fail
      clear hz z0 z1 zf0 zf1
      generalize hP : o.f3 = P at BP HP0
      have HP := HP0
      clear hP
      obtain ⟨w4, hw4⟩ : ∃ w4, w4 = w3 := ⟨_, rfl⟩
      subst hw4
      obtain ⟨z0, z1, zf0, zf1⟩ := Z2 BP.out
      by_cases hk1 : o.f0 = 1
      · skip
        rcases fI_is l o.f2 with ⟨f1, f2, f3, f4⟩ | ⟨f1, f2⟩
        · have HE := Aside0.mk (show doR l o = l by unfold doR; rw [if_pos hk1, if_pos (by rw [f1]; rfl)])
          have g0 : decide (fI l o.f2 < 0) = false := decide_eq_false (by omega)
          have g1 : (fI l o.f2 < 0) = False := eq_false (by omega)
          have g2 : (0 ≤ fI l o.f2) = True := eq_true (by omega)
          have g3 : decide (0 ≤ fI l o.f2) = true := decide_eq_true (by omega)
          have g4 : (fI l o.f2 < (l.length : Int)) = True := eq_true (by omega)
          have F1 := Aside0.mk f1
          have F2 := Aside0.mk f2
          have F3 := Aside0.mk f3
          have F4 := Aside0.mk f4
          clear f1 f2 f3 f4
          go_wp2
          go_ret
          exact ⟨_, rfl, by rw [HE.out]; exact HC.out.below HB.out, .inl ⟨rfl, HE.out⟩, HB.out⟩
        · have HE := Aside0.mk (show doR l o = withR l ⟨o.f2, P, o.f4, ⟨#[]⟩⟩ by unfold doR; rw [if_pos hk1, if_neg (by rw [f1, HT.out]; decide), HP.out])
          clear f1
          go_wp2_with (go_at_call 68; refine (with_calls _ _ l ⟨o.f2, P, o.f4, ⟨#[]⟩⟩ (HC.out.below HB.out) HL.out).mono ?_; rintro e w9 ⟨v9, rfl, hr9, ht9, hb9⟩; have HR9 := Aside0.mk hr9; have HT9 := Aside0.mk ht9; have HB9 := Aside0.mk (below_then HB.out HB.out.size hb9); clear hr9 ht9 hb9)
          go_ret
          exact ⟨_, rfl, by rw [HE.out]; exact HR9.out, .inr ⟨HT9.out.1, HT9.out.2.mono HB.out.size⟩, HB9.out⟩
      by_cases hk3 : o.f0 = 3
      · skip
        rcases fI_is l o.f2 with ⟨f1, f2, f3, f4⟩ | ⟨f1, f2⟩
        · have HH := Aside0.mk f1
          have HE := Aside0.mk (show doR l o = withR l ⟨(look l o.f2).f0, (look l o.f2).f1, o.f4, (look l o.f2).f3⟩ by unfold doR; rw [if_neg (show ¬ o.f0 = 1 by omega), if_neg (by rw [f1]; decide), if_pos hk3])
          have g0 : decide (fI l o.f2 < 0) = false := decide_eq_false (by omega)
          have g1 : (fI l o.f2 < 0) = False := eq_false (by omega)
          have g2 : (0 ≤ fI l o.f2) = True := eq_true (by omega)
          have g3 : decide (0 ≤ fI l o.f2) = true := decide_eq_true (by omega)
          have g4 : (fI l o.f2 < (l.length : Int)) = True := eq_true (by omega)
          have F1 := Aside0.mk f1
          have F2 := Aside0.mk f2
          have F3 := Aside0.mk f3
          have F4 := Aside0.mk f4
          clear f1 f2 f3 f4
          obtain ⟨ad, e, x0, x1, x2, x3, x4, x5⟩ := at_T36 (HC.out.below HB.out).at.2.2 (fI l o.f2) F2.out F3.out
          cases e
          rw [F4.out] at x0 x1 x2 x3 x4 x5
          go_upto_region 13 with fail
          have BN := Aside0.mk (heap_alloc_new w4 (lkB (look l o.f2)))
          have hn : pb < w4.heap.size := blk_lt BP.out
          replace BO := Aside0.mk (blk_below BO.out (below_alloc (Below.refl _ _) (lkB (look l o.f2))))
          replace BP := Aside0.mk (blk_below BP.out (below_alloc (Below.refl _ _) (lkB (look l o.f2))))
          replace HB := Aside0.mk (below_alloc HB.out (lkB (look l o.f2)))
          generalize w4.alloc (lkB (look l o.f2)) = w6 at BN BO BP HB ⊢
          generalize w4.heap.size = nb at BN hn ⊢
          clear x0 x1 x2 x3 x4 x5 z0 z1 zf0 zf1
          clear y0 y1 y2 y3 y4 y5 y6 y7 y8 yf
          obtain ⟨y0, y1, y2, y3, y4, y5, y6, y7, y8, yf⟩ := Z9 BO.out
          obtain ⟨z0, z1, zf0, zf1⟩ := Z2 BP.out
          obtain ⟨v0, v1, v2, v3, v4, v5, vf0, vf1, vf2, vf3, vf4, vf5⟩ := Z6 BN.out
          have hnb : w.heap.size ≤ nb := by omega
          go_upto_region 21 with fail
          replace BN := Aside0.mk (blk_put BN.out 4 (.string o.f4) rfl)
          replace HB := Aside0.mk (below_set HB.out hnb (j := 4) (v := .string o.f4))
          generalize w6.setCell ⟨nb, 4, none⟩ (.string o.f4) = w7 at BN HB ⊢
          clear v0 v1 v2 v3 v4 v5 vf0 vf1 vf2 vf3 vf4 vf5
          obtain ⟨v0, v1, v2, v3, v4, v5, vf0, vf1, vf2, vf3, vf4, vf5⟩ := Z6 BN.out
          go_wp2_with (go_at_call 68; refine (with_calls _ _ l ⟨(look l o.f2).f0, (look l o.f2).f1, o.f4, (look l o.f2).f3⟩ (HC.out.below HB.out) HL.out).mono ?_; rintro e w9 ⟨v9, rfl, hr9, ht9, hb9⟩; have HR9 := Aside0.mk hr9; have HT9 := Aside0.mk ht9; have HB9 := Aside0.mk (below_then HB.out HB.out.size hb9); clear hr9 ht9 hb9)
          go_ret
          exact ⟨_, rfl, by rw [HE.out]; exact HR9.out, .inr ⟨HT9.out.1, HT9.out.2.mono HB.out.size⟩, HB9.out⟩
        · have HE := Aside0.mk (show doR l o = l by unfold doR; rw [if_neg (show ¬ o.f0 = 1 by omega), if_pos f1])
          clear f1
          go_wp2
          go_ret
          exact ⟨_, rfl, by rw [HE.out]; exact HC.out.below HB.out, .inl ⟨rfl, HE.out⟩, HB.out⟩
      by_cases hk4 : o.f0 = 4
      · skip
        rcases fI_is l o.f2 with ⟨f1, f2, f3, f4⟩ | ⟨f1, f2⟩
        · have HH := Aside0.mk f1
          have HE := Aside0.mk (show doR l o = withR l ⟨(look l o.f2).f0, (look l o.f2).f1, (look l o.f2).f2, o.f5⟩ by unfold doR; rw [if_neg (show ¬ o.f0 = 1 by omega), if_neg (by rw [f1]; decide), if_neg (show ¬ o.f0 = 3 by omega), if_pos hk4])
          have g0 : decide (fI l o.f2 < 0) = false := decide_eq_false (by omega)
          have g1 : (fI l o.f2 < 0) = False := eq_false (by omega)
          have g2 : (0 ≤ fI l o.f2) = True := eq_true (by omega)
          have g3 : decide (0 ≤ fI l o.f2) = true := decide_eq_true (by omega)
          have g4 : (fI l o.f2 < (l.length : Int)) = True := eq_true (by omega)
          have F1 := Aside0.mk f1
          have F2 := Aside0.mk f2
          have F3 := Aside0.mk f3
          have F4 := Aside0.mk f4
          clear f1 f2 f3 f4
          obtain ⟨ad, e, x0, x1, x2, x3, x4, x5⟩ := at_T36 (HC.out.below HB.out).at.2.2 (fI l o.f2) F2.out F3.out
          cases e
          rw [F4.out] at x0 x1 x2 x3 x4 x5
          go_upto_region 13 with fail
          have BN := Aside0.mk (heap_alloc_new w4 (lkB (look l o.f2)))
          have hn : pb < w4.heap.size := blk_lt BP.out
          replace BO := Aside0.mk (blk_below BO.out (below_alloc (Below.refl _ _) (lkB (look l o.f2))))
          replace BP := Aside0.mk (blk_below BP.out (below_alloc (Below.refl _ _) (lkB (look l o.f2))))
          replace HB := Aside0.mk (below_alloc HB.out (lkB (look l o.f2)))
          generalize w4.alloc (lkB (look l o.f2)) = w6 at BN BO BP HB ⊢
          generalize w4.heap.size = nb at BN hn ⊢
          clear x0 x1 x2 x3 x4 x5 z0 z1 zf0 zf1
          clear y0 y1 y2 y3 y4 y5 y6 y7 y8 yf
          obtain ⟨y0, y1, y2, y3, y4, y5, y6, y7, y8, yf⟩ := Z9 BO.out
          obtain ⟨z0, z1, zf0, zf1⟩ := Z2 BP.out
          obtain ⟨v0, v1, v2, v3, v4, v5, vf0, vf1, vf2, vf3, vf4, vf5⟩ := Z6 BN.out
          have hnb : w.heap.size ≤ nb := by omega
          go_upto_region 21 with fail
          replace BN := Aside0.mk (blk_put BN.out 5 (.string o.f5) rfl)
          replace HB := Aside0.mk (below_set HB.out hnb (j := 5) (v := .string o.f5))
          generalize w6.setCell ⟨nb, 5, none⟩ (.string o.f5) = w7 at BN HB ⊢
          clear v0 v1 v2 v3 v4 v5 vf0 vf1 vf2 vf3 vf4 vf5
          obtain ⟨v0, v1, v2, v3, v4, v5, vf0, vf1, vf2, vf3, vf4, vf5⟩ := Z6 BN.out
          go_wp2_with (go_at_call 68; refine (with_calls _ _ l ⟨(look l o.f2).f0, (look l o.f2).f1, (look l o.f2).f2, o.f5⟩ (HC.out.below HB.out) HL.out).mono ?_; rintro e w9 ⟨v9, rfl, hr9, ht9, hb9⟩; have HR9 := Aside0.mk hr9; have HT9 := Aside0.mk ht9; have HB9 := Aside0.mk (below_then HB.out HB.out.size hb9); clear hr9 ht9 hb9)
          go_ret
          exact ⟨_, rfl, by rw [HE.out]; exact HR9.out, .inr ⟨HT9.out.1, HT9.out.2.mono HB.out.size⟩, HB9.out⟩
        · have HE := Aside0.mk (show doR l o = l by unfold doR; rw [if_neg (show ¬ o.f0 = 1 by omega), if_pos f1])
          clear f1
          go_wp2
          go_ret
          exact ⟨_, rfl, by rw [HE.out]; exact HC.out.below HB.out, .inl ⟨rfl, HE.out⟩, HB.out⟩
      have n1 := decide_eq_false (show ¬ o.f0 = 1 by exact hk1)
      have m1 := eq_false (show ¬ o.f0 = 1 by exact hk1)
      have b1 : (o.f0 == 1) = false := beq_eq_false_iff_ne.2 (by exact hk1)
      have n3 := decide_eq_false (show ¬ o.f0 = 3 by exact hk3)
      have m3 := eq_false (show ¬ o.f0 = 3 by exact hk3)
      have b3 : (o.f0 == 3) = false := beq_eq_false_iff_ne.2 (by exact hk3)
      have n4 := decide_eq_false (show ¬ o.f0 = 4 by exact hk4)
      have m4 := eq_false (show ¬ o.f0 = 4 by exact hk4)
      have b4 : (o.f0 == 4) = false := beq_eq_false_iff_ne.2 (by exact hk4)
      clear hk1 hk3 hk4
      rcases fI_is l o.f2 with ⟨f1, f2, f3, f4⟩ | ⟨f1, f2⟩
      · have HH := Aside0.mk f1
        have HE := Aside0.mk (show doR l o = if (!thereR l o || undR l o.f2 (l.length + 1) (parR o)) = true then l else withR l ⟨(look l o.f2).f0, parR o, (look l o.f2).f2, (look l o.f2).f3⟩ by unfold doR; rw [if_neg (of_eq_false m1), if_neg (by rw [f1]; decide), if_neg (of_eq_false m3), if_neg (of_eq_false m4)])
        rw [HP.out, HT.out] at HE
        have g0 : decide (fI l o.f2 < 0) = false := decide_eq_false (by omega)
        have g1 : (fI l o.f2 < 0) = False := eq_false (by omega)
        have g2 : (0 ≤ fI l o.f2) = True := eq_true (by omega)
        have g3 : decide (0 ≤ fI l o.f2) = true := decide_eq_true (by omega)
        have g4 : (fI l o.f2 < (l.length : Int)) = True := eq_true (by omega)
        have F1 := Aside0.mk f1
        have F2 := Aside0.mk f2
        have F3 := Aside0.mk f3
        have F4 := Aside0.mk f4
        clear f1 f2 f3 f4
        obtain ⟨ad, e, x0, x1, x2, x3, x4, x5⟩ := at_T36 (HC.out.below HB.out).at.2.2 (fI l o.f2) F2.out F3.out
        cases e
        rw [F4.out] at x0 x1 x2 x3 x4 x5
        go_upto_region 13 with fail
        have BN := Aside0.mk (heap_alloc_new w4 (lkB (look l o.f2)))
        have hn : pb < w4.heap.size := blk_lt BP.out
        replace BO := Aside0.mk (blk_below BO.out (below_alloc (Below.refl _ _) (lkB (look l o.f2))))
        replace BP := Aside0.mk (blk_below BP.out (below_alloc (Below.refl _ _) (lkB (look l o.f2))))
        replace HB := Aside0.mk (below_alloc HB.out (lkB (look l o.f2)))
        generalize w4.alloc (lkB (look l o.f2)) = w6 at BN BO BP HB ⊢
        generalize w4.heap.size = nb at BN hn ⊢
        clear x0 x1 x2 x3 x4 x5 z0 z1 zf0 zf1
        clear y0 y1 y2 y3 y4 y5 y6 y7 y8 yf
        obtain ⟨y0, y1, y2, y3, y4, y5, y6, y7, y8, yf⟩ := Z9 BO.out
        obtain ⟨z0, z1, zf0, zf1⟩ := Z2 BP.out
        obtain ⟨v0, v1, v2, v3, v4, v5, vf0, vf1, vf2, vf3, vf4, vf5⟩ := Z6 BN.out
        have hnb : w.heap.size ≤ nb := by omega
        cases hun : undR l o.f2 (l.length + 1) P with
        | true =>
          have HE2 := Aside0.mk (show doR l o = l by rw [HE.out, hun]; rfl)
          go_wp2_with (go_at_call 69; refine (under_calls _ _ l P o.f2 (HC.out.below HB.out) HL2.out).mono ?_; rintro e w5 ⟨rfl, hb5⟩; have BO5 := Aside0.mk (blk_below BO.out hb5); have BP5 := Aside0.mk (blk_below BP.out hb5); have BN5 := Aside0.mk (blk_below BN.out hb5); have HB5 := Aside0.mk (below_then HB.out HB.out.size hb5); clear hb5)
          go_ret
          exact ⟨_, rfl, by rw [HE2.out]; exact HC.out.below HB5.out, .inl ⟨rfl, HE2.out⟩, HB5.out⟩
        | false =>
          have HE2 := Aside0.mk (show doR l o = withR l ⟨(look l o.f2).f0, P, (look l o.f2).f2, (look l o.f2).f3⟩ by rw [HE.out, hun]; rfl)
          go_upto_region 16 with (go_at_call 69; refine (under_calls _ _ l P o.f2 (HC.out.below HB.out) HL2.out).mono ?_; rintro e w5 ⟨rfl, hb5⟩; have BO5 := Aside0.mk (blk_below BO.out hb5); have BP5 := Aside0.mk (blk_below BP.out hb5); have BN5 := Aside0.mk (blk_below BN.out hb5); have HB5 := Aside0.mk (below_then HB.out HB.out.size hb5); clear hb5)
          clear v0 v1 v2 v3 v4 v5 vf0 vf1 vf2 vf3 vf4 vf5 z0 z1 zf0 zf1
          obtain ⟨z0, z1, zf0, zf1⟩ := Z2 BP5.out
          obtain ⟨v0, v1, v2, v3, v4, v5, vf0, vf1, vf2, vf3, vf4, vf5⟩ := Z6 BN5.out
          go_upto_region 21 with fail
          replace BN := Aside0.mk (blk_put (blk_put BN5.out 2 (.int .i64 P.f0) rfl) 3 (.int .i64 P.f1) rfl)
          replace HB := Aside0.mk (below_set (below_set HB5.out hnb (j := 2) (v := .int .i64 P.f0)) hnb (j := 3) (v := .int .i64 P.f1))
          generalize (w5.setCell ⟨nb, 2, none⟩ (.int .i64 P.f0)).setCell ⟨nb, 3, none⟩ (.int .i64 P.f1) = w7 at BN HB ⊢
          clear v0 v1 v2 v3 v4 v5 vf0 vf1 vf2 vf3 vf4 vf5
          obtain ⟨v0, v1, v2, v3, v4, v5, vf0, vf1, vf2, vf3, vf4, vf5⟩ := Z6 BN.out
          go_wp2_with (go_at_call 68; refine (with_calls _ _ l ⟨(look l o.f2).f0, P, (look l o.f2).f2, (look l o.f2).f3⟩ (HC.out.below HB.out) HL.out).mono ?_; rintro e w9 ⟨v9, rfl, hr9, ht9, hb9⟩; have HR9 := Aside0.mk hr9; have HT9 := Aside0.mk ht9; have HB9 := Aside0.mk (below_then HB.out HB.out.size hb9); clear hr9 ht9 hb9)
          go_ret
          exact ⟨_, rfl, by rw [HE2.out]; exact HR9.out, .inr ⟨HT9.out.1, HT9.out.2.mono HB.out.size⟩, HB9.out⟩
      · have HE := Aside0.mk (show doR l o = l by unfold doR; rw [if_neg (of_eq_false m1), if_pos f1])
        clear f1
        go_wp2
        go_ret
        exact ⟨_, rfl, by rw [HE.out]; exact HC.out.below HB.out, .inl ⟨rfl, HE.out⟩, HB.out⟩
    · have z5 := decide_eq_false hz
      have z6 := eq_false hz
      have z7 : (o.f3.f0 == 0) = false := beq_eq_false_iff_ne.2 hz
      rcases fI_is l o.f3 with ⟨f1, f2, f3, f4⟩ | ⟨f1, f2⟩
      · have HT := Aside0.mk (show thereR l o = true by unfold thereR; rw [HP0.out, f1]; simp)
        have g0 : (0 ≤ fI l o.f3) = True := eq_true f2
        have g1 : decide (0 ≤ fI l o.f3) = true := decide_eq_true f2
        clear f1 f2 f3 f4
        go_upto_region 6 with (go_at_call 53; refine (find_calls _ _ l o.f3 (HC.out.below HB.out) HL2.out).mono ?_; rintro e w2 ⟨rfl, hb2⟩; replace BO := Aside0.mk (blk_below BO.out hb2); replace HB := Aside0.mk (below_then HB.out HB.out.size hb2); replace BP := Aside0.mk (blk_below BP.out hb2); clear hb2)
        clear hz z0 z1 zf0 zf1 z5 z6 z7 g0 g1
        clear y0 y1 y2 y3 y4 y5 y6 y7 y8 yf
        obtain ⟨y0, y1, y2, y3, y4, y5, y6, y7, y8, yf⟩ := Z9 BO.out
        generalize hP : o.f3 = P at BP HP0
        have HP := HP0
        clear hP
        obtain ⟨w4, hw4⟩ : ∃ w4, w4 = w2 := ⟨_, rfl⟩
        subst hw4
        obtain ⟨z0, z1, zf0, zf1⟩ := Z2 BP.out
        by_cases hk1 : o.f0 = 1
        · skip
          rcases fI_is l o.f2 with ⟨f1, f2, f3, f4⟩ | ⟨f1, f2⟩
          · have HE := Aside0.mk (show doR l o = l by unfold doR; rw [if_pos hk1, if_pos (by rw [f1]; rfl)])
            have g0 : decide (fI l o.f2 < 0) = false := decide_eq_false (by omega)
            have g1 : (fI l o.f2 < 0) = False := eq_false (by omega)
            have g2 : (0 ≤ fI l o.f2) = True := eq_true (by omega)
            have g3 : decide (0 ≤ fI l o.f2) = true := decide_eq_true (by omega)
            have g4 : (fI l o.f2 < (l.length : Int)) = True := eq_true (by omega)
            have F1 := Aside0.mk f1
            have F2 := Aside0.mk f2
            have F3 := Aside0.mk f3
            have F4 := Aside0.mk f4
            clear f1 f2 f3 f4
            go_wp2
            go_ret
            exact ⟨_, rfl, by rw [HE.out]; exact HC.out.below HB.out, .inl ⟨rfl, HE.out⟩, HB.out⟩
          · have HE := Aside0.mk (show doR l o = withR l ⟨o.f2, P, o.f4, ⟨#[]⟩⟩ by unfold doR; rw [if_pos hk1, if_neg (by rw [f1, HT.out]; decide), HP.out])
            clear f1
            go_wp2_with (go_at_call 68; refine (with_calls _ _ l ⟨o.f2, P, o.f4, ⟨#[]⟩⟩ (HC.out.below HB.out) HL.out).mono ?_; rintro e w9 ⟨v9, rfl, hr9, ht9, hb9⟩; have HR9 := Aside0.mk hr9; have HT9 := Aside0.mk ht9; have HB9 := Aside0.mk (below_then HB.out HB.out.size hb9); clear hr9 ht9 hb9)
            go_ret
            exact ⟨_, rfl, by rw [HE.out]; exact HR9.out, .inr ⟨HT9.out.1, HT9.out.2.mono HB.out.size⟩, HB9.out⟩
        by_cases hk3 : o.f0 = 3
        · skip
          rcases fI_is l o.f2 with ⟨f1, f2, f3, f4⟩ | ⟨f1, f2⟩
          · have HH := Aside0.mk f1
            have HE := Aside0.mk (show doR l o = withR l ⟨(look l o.f2).f0, (look l o.f2).f1, o.f4, (look l o.f2).f3⟩ by unfold doR; rw [if_neg (show ¬ o.f0 = 1 by omega), if_neg (by rw [f1]; decide), if_pos hk3])
            have g0 : decide (fI l o.f2 < 0) = false := decide_eq_false (by omega)
            have g1 : (fI l o.f2 < 0) = False := eq_false (by omega)
            have g2 : (0 ≤ fI l o.f2) = True := eq_true (by omega)
            have g3 : decide (0 ≤ fI l o.f2) = true := decide_eq_true (by omega)
            have g4 : (fI l o.f2 < (l.length : Int)) = True := eq_true (by omega)
            have F1 := Aside0.mk f1
            have F2 := Aside0.mk f2
            have F3 := Aside0.mk f3
            have F4 := Aside0.mk f4
            clear f1 f2 f3 f4
            obtain ⟨ad, e, x0, x1, x2, x3, x4, x5⟩ := at_T36 (HC.out.below HB.out).at.2.2 (fI l o.f2) F2.out F3.out
            cases e
            rw [F4.out] at x0 x1 x2 x3 x4 x5
            go_upto_region 13 with fail
            have BN := Aside0.mk (heap_alloc_new w4 (lkB (look l o.f2)))
            have hn : pb < w4.heap.size := blk_lt BP.out
            replace BO := Aside0.mk (blk_below BO.out (below_alloc (Below.refl _ _) (lkB (look l o.f2))))
            replace BP := Aside0.mk (blk_below BP.out (below_alloc (Below.refl _ _) (lkB (look l o.f2))))
            replace HB := Aside0.mk (below_alloc HB.out (lkB (look l o.f2)))
            generalize w4.alloc (lkB (look l o.f2)) = w6 at BN BO BP HB ⊢
            generalize w4.heap.size = nb at BN hn ⊢
            clear x0 x1 x2 x3 x4 x5 z0 z1 zf0 zf1
            clear y0 y1 y2 y3 y4 y5 y6 y7 y8 yf
            obtain ⟨y0, y1, y2, y3, y4, y5, y6, y7, y8, yf⟩ := Z9 BO.out
            obtain ⟨z0, z1, zf0, zf1⟩ := Z2 BP.out
            obtain ⟨v0, v1, v2, v3, v4, v5, vf0, vf1, vf2, vf3, vf4, vf5⟩ := Z6 BN.out
            have hnb : w.heap.size ≤ nb := by omega
            go_upto_region 21 with fail
            replace BN := Aside0.mk (blk_put BN.out 4 (.string o.f4) rfl)
            replace HB := Aside0.mk (below_set HB.out hnb (j := 4) (v := .string o.f4))
            generalize w6.setCell ⟨nb, 4, none⟩ (.string o.f4) = w7 at BN HB ⊢
            clear v0 v1 v2 v3 v4 v5 vf0 vf1 vf2 vf3 vf4 vf5
            obtain ⟨v0, v1, v2, v3, v4, v5, vf0, vf1, vf2, vf3, vf4, vf5⟩ := Z6 BN.out
            go_wp2_with (go_at_call 68; refine (with_calls _ _ l ⟨(look l o.f2).f0, (look l o.f2).f1, o.f4, (look l o.f2).f3⟩ (HC.out.below HB.out) HL.out).mono ?_; rintro e w9 ⟨v9, rfl, hr9, ht9, hb9⟩; have HR9 := Aside0.mk hr9; have HT9 := Aside0.mk ht9; have HB9 := Aside0.mk (below_then HB.out HB.out.size hb9); clear hr9 ht9 hb9)
            go_ret
            exact ⟨_, rfl, by rw [HE.out]; exact HR9.out, .inr ⟨HT9.out.1, HT9.out.2.mono HB.out.size⟩, HB9.out⟩
          · have HE := Aside0.mk (show doR l o = l by unfold doR; rw [if_neg (show ¬ o.f0 = 1 by omega), if_pos f1])
            clear f1
            go_wp2
            go_ret
            exact ⟨_, rfl, by rw [HE.out]; exact HC.out.below HB.out, .inl ⟨rfl, HE.out⟩, HB.out⟩
        by_cases hk4 : o.f0 = 4
        · skip
          rcases fI_is l o.f2 with ⟨f1, f2, f3, f4⟩ | ⟨f1, f2⟩
          · have HH := Aside0.mk f1
            have HE := Aside0.mk (show doR l o = withR l ⟨(look l o.f2).f0, (look l o.f2).f1, (look l o.f2).f2, o.f5⟩ by unfold doR; rw [if_neg (show ¬ o.f0 = 1 by omega), if_neg (by rw [f1]; decide), if_neg (show ¬ o.f0 = 3 by omega), if_pos hk4])
            have g0 : decide (fI l o.f2 < 0) = false := decide_eq_false (by omega)
            have g1 : (fI l o.f2 < 0) = False := eq_false (by omega)
            have g2 : (0 ≤ fI l o.f2) = True := eq_true (by omega)
            have g3 : decide (0 ≤ fI l o.f2) = true := decide_eq_true (by omega)
            have g4 : (fI l o.f2 < (l.length : Int)) = True := eq_true (by omega)
            have F1 := Aside0.mk f1
            have F2 := Aside0.mk f2
            have F3 := Aside0.mk f3
            have F4 := Aside0.mk f4
            clear f1 f2 f3 f4
            obtain ⟨ad, e, x0, x1, x2, x3, x4, x5⟩ := at_T36 (HC.out.below HB.out).at.2.2 (fI l o.f2) F2.out F3.out
            cases e
            rw [F4.out] at x0 x1 x2 x3 x4 x5
            go_upto_region 13 with fail
            have BN := Aside0.mk (heap_alloc_new w4 (lkB (look l o.f2)))
            have hn : pb < w4.heap.size := blk_lt BP.out
            replace BO := Aside0.mk (blk_below BO.out (below_alloc (Below.refl _ _) (lkB (look l o.f2))))
            replace BP := Aside0.mk (blk_below BP.out (below_alloc (Below.refl _ _) (lkB (look l o.f2))))
            replace HB := Aside0.mk (below_alloc HB.out (lkB (look l o.f2)))
            generalize w4.alloc (lkB (look l o.f2)) = w6 at BN BO BP HB ⊢
            generalize w4.heap.size = nb at BN hn ⊢
            clear x0 x1 x2 x3 x4 x5 z0 z1 zf0 zf1
            clear y0 y1 y2 y3 y4 y5 y6 y7 y8 yf
            obtain ⟨y0, y1, y2, y3, y4, y5, y6, y7, y8, yf⟩ := Z9 BO.out
            obtain ⟨z0, z1, zf0, zf1⟩ := Z2 BP.out
            obtain ⟨v0, v1, v2, v3, v4, v5, vf0, vf1, vf2, vf3, vf4, vf5⟩ := Z6 BN.out
            have hnb : w.heap.size ≤ nb := by omega
            go_upto_region 21 with fail
            replace BN := Aside0.mk (blk_put BN.out 5 (.string o.f5) rfl)
            replace HB := Aside0.mk (below_set HB.out hnb (j := 5) (v := .string o.f5))
            generalize w6.setCell ⟨nb, 5, none⟩ (.string o.f5) = w7 at BN HB ⊢
            clear v0 v1 v2 v3 v4 v5 vf0 vf1 vf2 vf3 vf4 vf5
            obtain ⟨v0, v1, v2, v3, v4, v5, vf0, vf1, vf2, vf3, vf4, vf5⟩ := Z6 BN.out
            go_wp2_with (go_at_call 68; refine (with_calls _ _ l ⟨(look l o.f2).f0, (look l o.f2).f1, (look l o.f2).f2, o.f5⟩ (HC.out.below HB.out) HL.out).mono ?_; rintro e w9 ⟨v9, rfl, hr9, ht9, hb9⟩; have HR9 := Aside0.mk hr9; have HT9 := Aside0.mk ht9; have HB9 := Aside0.mk (below_then HB.out HB.out.size hb9); clear hr9 ht9 hb9)
            go_ret
            exact ⟨_, rfl, by rw [HE.out]; exact HR9.out, .inr ⟨HT9.out.1, HT9.out.2.mono HB.out.size⟩, HB9.out⟩
          · have HE := Aside0.mk (show doR l o = l by unfold doR; rw [if_neg (show ¬ o.f0 = 1 by omega), if_pos f1])
            clear f1
            go_wp2
            go_ret
            exact ⟨_, rfl, by rw [HE.out]; exact HC.out.below HB.out, .inl ⟨rfl, HE.out⟩, HB.out⟩
        have n1 := decide_eq_false (show ¬ o.f0 = 1 by exact hk1)
        have m1 := eq_false (show ¬ o.f0 = 1 by exact hk1)
        have b1 : (o.f0 == 1) = false := beq_eq_false_iff_ne.2 (by exact hk1)
        have n3 := decide_eq_false (show ¬ o.f0 = 3 by exact hk3)
        have m3 := eq_false (show ¬ o.f0 = 3 by exact hk3)
        have b3 : (o.f0 == 3) = false := beq_eq_false_iff_ne.2 (by exact hk3)
        have n4 := decide_eq_false (show ¬ o.f0 = 4 by exact hk4)
        have m4 := eq_false (show ¬ o.f0 = 4 by exact hk4)
        have b4 : (o.f0 == 4) = false := beq_eq_false_iff_ne.2 (by exact hk4)
        clear hk1 hk3 hk4
        rcases fI_is l o.f2 with ⟨f1, f2, f3, f4⟩ | ⟨f1, f2⟩
        · have HH := Aside0.mk f1
          have HE := Aside0.mk (show doR l o = if (!thereR l o || undR l o.f2 (l.length + 1) (parR o)) = true then l else withR l ⟨(look l o.f2).f0, parR o, (look l o.f2).f2, (look l o.f2).f3⟩ by unfold doR; rw [if_neg (of_eq_false m1), if_neg (by rw [f1]; decide), if_neg (of_eq_false m3), if_neg (of_eq_false m4)])
          rw [HP.out, HT.out] at HE
          have g0 : decide (fI l o.f2 < 0) = false := decide_eq_false (by omega)
          have g1 : (fI l o.f2 < 0) = False := eq_false (by omega)
          have g2 : (0 ≤ fI l o.f2) = True := eq_true (by omega)
          have g3 : decide (0 ≤ fI l o.f2) = true := decide_eq_true (by omega)
          have g4 : (fI l o.f2 < (l.length : Int)) = True := eq_true (by omega)
          have F1 := Aside0.mk f1
          have F2 := Aside0.mk f2
          have F3 := Aside0.mk f3
          have F4 := Aside0.mk f4
          clear f1 f2 f3 f4
          obtain ⟨ad, e, x0, x1, x2, x3, x4, x5⟩ := at_T36 (HC.out.below HB.out).at.2.2 (fI l o.f2) F2.out F3.out
          cases e
          rw [F4.out] at x0 x1 x2 x3 x4 x5
          go_upto_region 13 with fail
          have BN := Aside0.mk (heap_alloc_new w4 (lkB (look l o.f2)))
          have hn : pb < w4.heap.size := blk_lt BP.out
          replace BO := Aside0.mk (blk_below BO.out (below_alloc (Below.refl _ _) (lkB (look l o.f2))))
          replace BP := Aside0.mk (blk_below BP.out (below_alloc (Below.refl _ _) (lkB (look l o.f2))))
          replace HB := Aside0.mk (below_alloc HB.out (lkB (look l o.f2)))
          generalize w4.alloc (lkB (look l o.f2)) = w6 at BN BO BP HB ⊢
          generalize w4.heap.size = nb at BN hn ⊢
          clear x0 x1 x2 x3 x4 x5 z0 z1 zf0 zf1
          clear y0 y1 y2 y3 y4 y5 y6 y7 y8 yf
          obtain ⟨y0, y1, y2, y3, y4, y5, y6, y7, y8, yf⟩ := Z9 BO.out
          obtain ⟨z0, z1, zf0, zf1⟩ := Z2 BP.out
          obtain ⟨v0, v1, v2, v3, v4, v5, vf0, vf1, vf2, vf3, vf4, vf5⟩ := Z6 BN.out
          have hnb : w.heap.size ≤ nb := by omega
          cases hun : undR l o.f2 (l.length + 1) P with
          | true =>
            have HE2 := Aside0.mk (show doR l o = l by rw [HE.out, hun]; rfl)
            go_wp2_with (go_at_call 69; refine (under_calls _ _ l P o.f2 (HC.out.below HB.out) HL2.out).mono ?_; rintro e w5 ⟨rfl, hb5⟩; have BO5 := Aside0.mk (blk_below BO.out hb5); have BP5 := Aside0.mk (blk_below BP.out hb5); have BN5 := Aside0.mk (blk_below BN.out hb5); have HB5 := Aside0.mk (below_then HB.out HB.out.size hb5); clear hb5)
            go_ret
            exact ⟨_, rfl, by rw [HE2.out]; exact HC.out.below HB5.out, .inl ⟨rfl, HE2.out⟩, HB5.out⟩
          | false =>
            have HE2 := Aside0.mk (show doR l o = withR l ⟨(look l o.f2).f0, P, (look l o.f2).f2, (look l o.f2).f3⟩ by rw [HE.out, hun]; rfl)
            go_upto_region 16 with (go_at_call 69; refine (under_calls _ _ l P o.f2 (HC.out.below HB.out) HL2.out).mono ?_; rintro e w5 ⟨rfl, hb5⟩; have BO5 := Aside0.mk (blk_below BO.out hb5); have BP5 := Aside0.mk (blk_below BP.out hb5); have BN5 := Aside0.mk (blk_below BN.out hb5); have HB5 := Aside0.mk (below_then HB.out HB.out.size hb5); clear hb5)
            clear v0 v1 v2 v3 v4 v5 vf0 vf1 vf2 vf3 vf4 vf5 z0 z1 zf0 zf1
            obtain ⟨z0, z1, zf0, zf1⟩ := Z2 BP5.out
            obtain ⟨v0, v1, v2, v3, v4, v5, vf0, vf1, vf2, vf3, vf4, vf5⟩ := Z6 BN5.out
            go_upto_region 21 with fail
            replace BN := Aside0.mk (blk_put (blk_put BN5.out 2 (.int .i64 P.f0) rfl) 3 (.int .i64 P.f1) rfl)
            replace HB := Aside0.mk (below_set (below_set HB5.out hnb (j := 2) (v := .int .i64 P.f0)) hnb (j := 3) (v := .int .i64 P.f1))
            generalize (w5.setCell ⟨nb, 2, none⟩ (.int .i64 P.f0)).setCell ⟨nb, 3, none⟩ (.int .i64 P.f1) = w7 at BN HB ⊢
            clear v0 v1 v2 v3 v4 v5 vf0 vf1 vf2 vf3 vf4 vf5
            obtain ⟨v0, v1, v2, v3, v4, v5, vf0, vf1, vf2, vf3, vf4, vf5⟩ := Z6 BN.out
            go_wp2_with (go_at_call 68; refine (with_calls _ _ l ⟨(look l o.f2).f0, P, (look l o.f2).f2, (look l o.f2).f3⟩ (HC.out.below HB.out) HL.out).mono ?_; rintro e w9 ⟨v9, rfl, hr9, ht9, hb9⟩; have HR9 := Aside0.mk hr9; have HT9 := Aside0.mk ht9; have HB9 := Aside0.mk (below_then HB.out HB.out.size hb9); clear hr9 ht9 hb9)
            go_ret
            exact ⟨_, rfl, by rw [HE2.out]; exact HR9.out, .inr ⟨HT9.out.1, HT9.out.2.mono HB.out.size⟩, HB9.out⟩
        · have HE := Aside0.mk (show doR l o = l by unfold doR; rw [if_neg (of_eq_false m1), if_pos f1])
          clear f1
          go_wp2
          go_ret
          exact ⟨_, rfl, by rw [HE.out]; exact HC.out.below HB.out, .inl ⟨rfl, HE.out⟩, HB.out⟩
      · have HT := Aside0.mk (show thereR l o = false by unfold thereR; rw [HP0.out, f1, z7]; rfl)
        clear f1
        go_upto_region 6 with (go_at_call 53; refine (find_calls _ _ l o.f3 (HC.out.below HB.out) HL2.out).mono ?_; rintro e w2 ⟨rfl, hb2⟩; replace BO := Aside0.mk (blk_below BO.out hb2); replace HB := Aside0.mk (below_then HB.out HB.out.size hb2); replace BP := Aside0.mk (blk_below BP.out hb2); clear hb2)
        clear hz z0 z1 zf0 zf1 z5 z6 z7 f2
        clear y0 y1 y2 y3 y4 y5 y6 y7 y8 yf
        obtain ⟨y0, y1, y2, y3, y4, y5, y6, y7, y8, yf⟩ := Z9 BO.out
        generalize hP : o.f3 = P at BP HP0
        have HP := HP0
        clear hP
        obtain ⟨w4, hw4⟩ : ∃ w4, w4 = w2 := ⟨_, rfl⟩
        subst hw4
        obtain ⟨z0, z1, zf0, zf1⟩ := Z2 BP.out
        by_cases hk1 : o.f0 = 1
        · skip
          rcases fI_is l o.f2 with ⟨f1, f2, f3, f4⟩ | ⟨f1, f2⟩
          · have HE := Aside0.mk (show doR l o = l by unfold doR; rw [if_pos hk1, if_pos (by rw [f1]; rfl)])
            have g0 : decide (fI l o.f2 < 0) = false := decide_eq_false (by omega)
            have g1 : (fI l o.f2 < 0) = False := eq_false (by omega)
            have g2 : (0 ≤ fI l o.f2) = True := eq_true (by omega)
            have g3 : decide (0 ≤ fI l o.f2) = true := decide_eq_true (by omega)
            have g4 : (fI l o.f2 < (l.length : Int)) = True := eq_true (by omega)
            have F1 := Aside0.mk f1
            have F2 := Aside0.mk f2
            have F3 := Aside0.mk f3
            have F4 := Aside0.mk f4
            clear f1 f2 f3 f4
            go_wp2
            go_ret
            exact ⟨_, rfl, by rw [HE.out]; exact HC.out.below HB.out, .inl ⟨rfl, HE.out⟩, HB.out⟩
          · have HE := Aside0.mk (show doR l o = l by unfold doR; rw [if_pos hk1, if_pos (by rw [HT.out]; simp)])
            clear f1
            go_wp2
            go_ret
            exact ⟨_, rfl, by rw [HE.out]; exact HC.out.below HB.out, .inl ⟨rfl, HE.out⟩, HB.out⟩
        by_cases hk3 : o.f0 = 3
        · skip
          rcases fI_is l o.f2 with ⟨f1, f2, f3, f4⟩ | ⟨f1, f2⟩
          · have HH := Aside0.mk f1
            have HE := Aside0.mk (show doR l o = withR l ⟨(look l o.f2).f0, (look l o.f2).f1, o.f4, (look l o.f2).f3⟩ by unfold doR; rw [if_neg (show ¬ o.f0 = 1 by omega), if_neg (by rw [f1]; decide), if_pos hk3])
            have g0 : decide (fI l o.f2 < 0) = false := decide_eq_false (by omega)
            have g1 : (fI l o.f2 < 0) = False := eq_false (by omega)
            have g2 : (0 ≤ fI l o.f2) = True := eq_true (by omega)
            have g3 : decide (0 ≤ fI l o.f2) = true := decide_eq_true (by omega)
            have g4 : (fI l o.f2 < (l.length : Int)) = True := eq_true (by omega)
            have F1 := Aside0.mk f1
            have F2 := Aside0.mk f2
            have F3 := Aside0.mk f3
            have F4 := Aside0.mk f4
            clear f1 f2 f3 f4
            obtain ⟨ad, e, x0, x1, x2, x3, x4, x5⟩ := at_T36 (HC.out.below HB.out).at.2.2 (fI l o.f2) F2.out F3.out
            cases e
            rw [F4.out] at x0 x1 x2 x3 x4 x5
            go_upto_region 13 with fail
            have BN := Aside0.mk (heap_alloc_new w4 (lkB (look l o.f2)))
            have hn : pb < w4.heap.size := blk_lt BP.out
            replace BO := Aside0.mk (blk_below BO.out (below_alloc (Below.refl _ _) (lkB (look l o.f2))))
            replace BP := Aside0.mk (blk_below BP.out (below_alloc (Below.refl _ _) (lkB (look l o.f2))))
            replace HB := Aside0.mk (below_alloc HB.out (lkB (look l o.f2)))
            generalize w4.alloc (lkB (look l o.f2)) = w6 at BN BO BP HB ⊢
            generalize w4.heap.size = nb at BN hn ⊢
            clear x0 x1 x2 x3 x4 x5 z0 z1 zf0 zf1
            clear y0 y1 y2 y3 y4 y5 y6 y7 y8 yf
            obtain ⟨y0, y1, y2, y3, y4, y5, y6, y7, y8, yf⟩ := Z9 BO.out
            obtain ⟨z0, z1, zf0, zf1⟩ := Z2 BP.out
            obtain ⟨v0, v1, v2, v3, v4, v5, vf0, vf1, vf2, vf3, vf4, vf5⟩ := Z6 BN.out
            have hnb : w.heap.size ≤ nb := by omega
            go_upto_region 21 with fail
            replace BN := Aside0.mk (blk_put BN.out 4 (.string o.f4) rfl)
            replace HB := Aside0.mk (below_set HB.out hnb (j := 4) (v := .string o.f4))
            generalize w6.setCell ⟨nb, 4, none⟩ (.string o.f4) = w7 at BN HB ⊢
            clear v0 v1 v2 v3 v4 v5 vf0 vf1 vf2 vf3 vf4 vf5
            obtain ⟨v0, v1, v2, v3, v4, v5, vf0, vf1, vf2, vf3, vf4, vf5⟩ := Z6 BN.out
            go_wp2_with (go_at_call 68; refine (with_calls _ _ l ⟨(look l o.f2).f0, (look l o.f2).f1, o.f4, (look l o.f2).f3⟩ (HC.out.below HB.out) HL.out).mono ?_; rintro e w9 ⟨v9, rfl, hr9, ht9, hb9⟩; have HR9 := Aside0.mk hr9; have HT9 := Aside0.mk ht9; have HB9 := Aside0.mk (below_then HB.out HB.out.size hb9); clear hr9 ht9 hb9)
            go_ret
            exact ⟨_, rfl, by rw [HE.out]; exact HR9.out, .inr ⟨HT9.out.1, HT9.out.2.mono HB.out.size⟩, HB9.out⟩
          · have HE := Aside0.mk (show doR l o = l by unfold doR; rw [if_neg (show ¬ o.f0 = 1 by omega), if_pos f1])
            clear f1
            go_wp2
            go_ret
            exact ⟨_, rfl, by rw [HE.out]; exact HC.out.below HB.out, .inl ⟨rfl, HE.out⟩, HB.out⟩
        by_cases hk4 : o.f0 = 4
        · skip
          rcases fI_is l o.f2 with ⟨f1, f2, f3, f4⟩ | ⟨f1, f2⟩
          · have HH := Aside0.mk f1
            have HE := Aside0.mk (show doR l o = withR l ⟨(look l o.f2).f0, (look l o.f2).f1, (look l o.f2).f2, o.f5⟩ by unfold doR; rw [if_neg (show ¬ o.f0 = 1 by omega), if_neg (by rw [f1]; decide), if_neg (show ¬ o.f0 = 3 by omega), if_pos hk4])
            have g0 : decide (fI l o.f2 < 0) = false := decide_eq_false (by omega)
            have g1 : (fI l o.f2 < 0) = False := eq_false (by omega)
            have g2 : (0 ≤ fI l o.f2) = True := eq_true (by omega)
            have g3 : decide (0 ≤ fI l o.f2) = true := decide_eq_true (by omega)
            have g4 : (fI l o.f2 < (l.length : Int)) = True := eq_true (by omega)
            have F1 := Aside0.mk f1
            have F2 := Aside0.mk f2
            have F3 := Aside0.mk f3
            have F4 := Aside0.mk f4
            clear f1 f2 f3 f4
            obtain ⟨ad, e, x0, x1, x2, x3, x4, x5⟩ := at_T36 (HC.out.below HB.out).at.2.2 (fI l o.f2) F2.out F3.out
            cases e
            rw [F4.out] at x0 x1 x2 x3 x4 x5
            go_upto_region 13 with fail
            have BN := Aside0.mk (heap_alloc_new w4 (lkB (look l o.f2)))
            have hn : pb < w4.heap.size := blk_lt BP.out
            replace BO := Aside0.mk (blk_below BO.out (below_alloc (Below.refl _ _) (lkB (look l o.f2))))
            replace BP := Aside0.mk (blk_below BP.out (below_alloc (Below.refl _ _) (lkB (look l o.f2))))
            replace HB := Aside0.mk (below_alloc HB.out (lkB (look l o.f2)))
            generalize w4.alloc (lkB (look l o.f2)) = w6 at BN BO BP HB ⊢
            generalize w4.heap.size = nb at BN hn ⊢
            clear x0 x1 x2 x3 x4 x5 z0 z1 zf0 zf1
            clear y0 y1 y2 y3 y4 y5 y6 y7 y8 yf
            obtain ⟨y0, y1, y2, y3, y4, y5, y6, y7, y8, yf⟩ := Z9 BO.out
            obtain ⟨z0, z1, zf0, zf1⟩ := Z2 BP.out
            obtain ⟨v0, v1, v2, v3, v4, v5, vf0, vf1, vf2, vf3, vf4, vf5⟩ := Z6 BN.out
            have hnb : w.heap.size ≤ nb := by omega
            go_upto_region 21 with fail
            replace BN := Aside0.mk (blk_put BN.out 5 (.string o.f5) rfl)
            replace HB := Aside0.mk (below_set HB.out hnb (j := 5) (v := .string o.f5))
            generalize w6.setCell ⟨nb, 5, none⟩ (.string o.f5) = w7 at BN HB ⊢
            clear v0 v1 v2 v3 v4 v5 vf0 vf1 vf2 vf3 vf4 vf5
            obtain ⟨v0, v1, v2, v3, v4, v5, vf0, vf1, vf2, vf3, vf4, vf5⟩ := Z6 BN.out
            go_wp2_with (go_at_call 68; refine (with_calls _ _ l ⟨(look l o.f2).f0, (look l o.f2).f1, (look l o.f2).f2, o.f5⟩ (HC.out.below HB.out) HL.out).mono ?_; rintro e w9 ⟨v9, rfl, hr9, ht9, hb9⟩; have HR9 := Aside0.mk hr9; have HT9 := Aside0.mk ht9; have HB9 := Aside0.mk (below_then HB.out HB.out.size hb9); clear hr9 ht9 hb9)
            go_ret
            exact ⟨_, rfl, by rw [HE.out]; exact HR9.out, .inr ⟨HT9.out.1, HT9.out.2.mono HB.out.size⟩, HB9.out⟩
          · have HE := Aside0.mk (show doR l o = l by unfold doR; rw [if_neg (show ¬ o.f0 = 1 by omega), if_pos f1])
            clear f1
            go_wp2
            go_ret
            exact ⟨_, rfl, by rw [HE.out]; exact HC.out.below HB.out, .inl ⟨rfl, HE.out⟩, HB.out⟩
        have n1 := decide_eq_false (show ¬ o.f0 = 1 by exact hk1)
        have m1 := eq_false (show ¬ o.f0 = 1 by exact hk1)
        have b1 : (o.f0 == 1) = false := beq_eq_false_iff_ne.2 (by exact hk1)
        have n3 := decide_eq_false (show ¬ o.f0 = 3 by exact hk3)
        have m3 := eq_false (show ¬ o.f0 = 3 by exact hk3)
        have b3 : (o.f0 == 3) = false := beq_eq_false_iff_ne.2 (by exact hk3)
        have n4 := decide_eq_false (show ¬ o.f0 = 4 by exact hk4)
        have m4 := eq_false (show ¬ o.f0 = 4 by exact hk4)
        have b4 : (o.f0 == 4) = false := beq_eq_false_iff_ne.2 (by exact hk4)
        clear hk1 hk3 hk4
        rcases fI_is l o.f2 with ⟨f1, f2, f3, f4⟩ | ⟨f1, f2⟩
        · have HH := Aside0.mk f1
          have HE := Aside0.mk (show doR l o = if (!thereR l o || undR l o.f2 (l.length + 1) (parR o)) = true then l else withR l ⟨(look l o.f2).f0, parR o, (look l o.f2).f2, (look l o.f2).f3⟩ by unfold doR; rw [if_neg (of_eq_false m1), if_neg (by rw [f1]; decide), if_neg (of_eq_false m3), if_neg (of_eq_false m4)])
          rw [HP.out, HT.out] at HE
          have g0 : decide (fI l o.f2 < 0) = false := decide_eq_false (by omega)
          have g1 : (fI l o.f2 < 0) = False := eq_false (by omega)
          have g2 : (0 ≤ fI l o.f2) = True := eq_true (by omega)
          have g3 : decide (0 ≤ fI l o.f2) = true := decide_eq_true (by omega)
          have g4 : (fI l o.f2 < (l.length : Int)) = True := eq_true (by omega)
          have F1 := Aside0.mk f1
          have F2 := Aside0.mk f2
          have F3 := Aside0.mk f3
          have F4 := Aside0.mk f4
          clear f1 f2 f3 f4
          obtain ⟨ad, e, x0, x1, x2, x3, x4, x5⟩ := at_T36 (HC.out.below HB.out).at.2.2 (fI l o.f2) F2.out F3.out
          cases e
          rw [F4.out] at x0 x1 x2 x3 x4 x5
          go_upto_region 13 with fail
          have BN := Aside0.mk (heap_alloc_new w4 (lkB (look l o.f2)))
          have hn : pb < w4.heap.size := blk_lt BP.out
          replace BO := Aside0.mk (blk_below BO.out (below_alloc (Below.refl _ _) (lkB (look l o.f2))))
          replace BP := Aside0.mk (blk_below BP.out (below_alloc (Below.refl _ _) (lkB (look l o.f2))))
          replace HB := Aside0.mk (below_alloc HB.out (lkB (look l o.f2)))
          generalize w4.alloc (lkB (look l o.f2)) = w6 at BN BO BP HB ⊢
          generalize w4.heap.size = nb at BN hn ⊢
          clear x0 x1 x2 x3 x4 x5 z0 z1 zf0 zf1
          clear y0 y1 y2 y3 y4 y5 y6 y7 y8 yf
          obtain ⟨y0, y1, y2, y3, y4, y5, y6, y7, y8, yf⟩ := Z9 BO.out
          obtain ⟨z0, z1, zf0, zf1⟩ := Z2 BP.out
          obtain ⟨v0, v1, v2, v3, v4, v5, vf0, vf1, vf2, vf3, vf4, vf5⟩ := Z6 BN.out
          have hnb : w.heap.size ≤ nb := by omega
          have HE2 := Aside0.mk (show doR l o = l by rw [HE.out]; rfl)
          go_wp2
          go_ret
          exact ⟨_, rfl, by rw [HE2.out]; exact HC.out.below HB.out, .inl ⟨rfl, HE2.out⟩, HB.out⟩
        · have HE := Aside0.mk (show doR l o = l by unfold doR; rw [if_neg (of_eq_false m1), if_pos f1])
          clear f1
          go_wp2
          go_ret
          exact ⟨_, rfl, by rw [HE.out]; exact HC.out.below HB.out, .inl ⟨rfl, HE.out⟩, HB.out⟩
end Go.Proofs.YtiffeljmeahmkaaDoor.S
/- The document's tree, in plain words: with, Do and all operations lead to the nodes that the tree has, in order. -/
namespace Go.Proofs.YtiffeljmeahmkaaDoor.S
open Go.RowKit Go.Proofs.YtiffeljmeahmkaaDoorW.PrintWords Go.Proofs.YtiffeljmeahmkaaDoorW.PrintLast Go.Proofs.YtiffeljmeahmkaaDoorW.PrintMore
set_option linter.unusedVariables false
set_option linter.unusedSimpArgs false
/-- Nodes in strict order. -/
def SrtN (l : List Nod) : Prop := l.Pairwise fun a b => lessB a.f0 b.f0 = true
/-- What with makes, at once. -/
def withL (n : Nod) : List Nod → List Nod
  | [] => [n]
  | x :: l => if lessB x.f0 n.f0 = true then x :: withL n l else n :: (x :: l).filter (fun m => !eqS n.f0 m.f0)
theorem withL_cons (n x : Nod) (l : List Nod) : withL n (x :: l) = if lessB x.f0 n.f0 = true then x :: withL n l else n :: (x :: l).filter (fun m => !eqS n.f0 m.f0) := rfl
theorem fold_done (n : Nod) : ∀ (l o : List Nod), l.foldl (wS n) (o, true) = (o ++ l.filter (fun m => !eqS n.f0 m.f0), true)
  | [], o => by simp
  | x :: l, o => by
    rw [List.foldl_cons, List.filter_cons]
    by_cases h : x.f0 = n.f0
    · rw [wS_hit (wT_done n o x) h, fold_done n l o, if_neg (by rw [h, eqS_self]; simp)]
    · rw [wS_no (wT_done n o x) h, fold_done n l _, if_pos (by rw [eqS_comm, eqS_false h]; rfl)]
      simp
theorem less_self (a : Stp) : lessB a a = false := less_irr a
theorem fold_with (n : Nod) : ∀ (l o : List Nod), (let st := l.foldl (wS n) (o, false); if st.2 = true then st.1 else st.1 ++ [n]) = o ++ withL n l
  | [], o => rfl
  | x :: l, o => by
    rw [List.foldl_cons]
    by_cases hl : lessB x.f0 n.f0 = true
    · have hne : x.f0 ≠ n.f0 := fun e => by rw [e, less_self] at hl; cases hl
      rw [wS_no (wT_less o hl) hne]
      have := fold_with n l (o ++ [x])
      rw [this, withL_cons, if_pos hl]
      simp
    · have hl' : lessB x.f0 n.f0 = false := by simpa using hl
      have e : (wS n (o, false) x) = (o ++ n :: [x].filter (fun m => !eqS n.f0 m.f0), true) := by
        by_cases h : x.f0 = n.f0
        · rw [wS_hit (wT_here o hl') h, List.filter_cons, if_neg (by rw [h, eqS_self]; simp)]; simp
        · rw [wS_no (wT_here o hl') h, List.filter_cons, if_pos (by rw [eqS_comm, eqS_false h]; rfl)]; simp
      rw [e, fold_done, withL_cons, if_neg hl]
      simp only [if_true]
      rw [show (x :: l) = [x] ++ l from rfl, List.filter_append]
      simp
theorem withR_is (l : List Nod) (n : Nod) : withR l n = withL n l := by
  have := fold_with n l []
  rw [List.nil_append] at this
  exact this
theorem withL_perm (n : Nod) : ∀ (l : List Nod), (withL n l).Perm (n :: l.filter (fun m => !eqS n.f0 m.f0))
  | [] => List.Perm.refl _
  | x :: l => by
    rw [withL_cons]
    by_cases hl : lessB x.f0 n.f0 = true
    · have hne : n.f0 ≠ x.f0 := fun e => by rw [e, less_self] at hl; cases hl
      rw [if_pos hl, List.filter_cons, if_pos (by rw [eqS_false hne]; rfl)]
      exact (List.Perm.cons x (withL_perm n l)).trans (List.Perm.swap n x _)
    · rw [if_neg hl]
theorem SrtN.nodup {l : List Nod} (h : SrtN l) : (l.map fun m => m.f0).Nodup := by
  refine List.pairwise_map.2 (h.imp fun {a b} hab e => ?_)
  rw [e, less_self] at hab
  cases hab
theorem withL_srt (n : Nod) : ∀ (l : List Nod), SrtN l → SrtN (withL n l)
  | [], _ => List.pairwise_singleton _ _
  | x :: l, h => by
    have h1 := (List.pairwise_cons.1 h).1
    have h2 : SrtN l := (List.pairwise_cons.1 h).2
    rw [withL_cons]
    by_cases hl : lessB x.f0 n.f0 = true
    · rw [if_pos hl]
      refine List.pairwise_cons.2 ⟨fun m hm => ?_, withL_srt n l h2⟩
      rcases List.mem_cons.1 ((withL_perm n l).mem_iff.1 hm) with rfl | hm
      · exact hl
      · exact h1 m (List.mem_filter.1 hm).1
    · rw [if_neg hl]
      refine List.pairwise_cons.2 ⟨fun m hm => ?_, h.sublist List.filter_sublist⟩
      obtain ⟨hm, hq⟩ := List.mem_filter.1 hm
      have hne : eqS n.f0 m.f0 = false := by simpa using hq
      have hx : lessB x.f0 n.f0 = false := by simpa using hl
      rcases less_or _ _ hx with e | e
      · rcases List.mem_cons.1 hm with rfl | hm
        · rw [eqS_comm, e] at hne; cases hne
        · have := h1 m hm; rwa [eqS_iff.1 e] at this
      · rcases List.mem_cons.1 hm with rfl | hm
        · exact e
        · exact less_trans e (h1 m hm)
theorem withR_put {l : List Nod} (h : SrtN l) (n : Nod) : (withR l n).Perm (put l n) ∧ SrtN (withR l n) := by
  rw [withR_is]
  exact ⟨(withL_perm n l).trans (put_filter l n h.nodup).symm, withL_srt n l h⟩
/-- Whether a stamp is below a node: in so many rounds as there are nodes, and one. -/
theorem undR_is {l : List Nod} (hr : Rooted l) {id : Stp} (hid : outerB id = false) : ∀ (k : Nat) (s : Stp) (m : Nat), exact_ l k s → k < m → (has l s || outerB s) = true → ∃ r, bel l id (k + 1) s = some r ∧ undR l id m s = r
  | 0, s, m, h, hm, _ => by
    have h0 := exact_zero h
    obtain ⟨m, rfl⟩ : ∃ m', m = m' + 1 := ⟨m - 1, by omega⟩
    refine ⟨false, by unfold bel; rw [if_pos h0], ?_⟩
    refine und_no (fun e => by rw [e, hid] at h0; cases h0) ?_
    cases hh : has l s with
    | false => rfl
    | true =>
      obtain ⟨n, hn, rfl⟩ := has_iff.1 hh
      rw [hr.own n hn] at h0; cases h0
  | k + 1, s, m, h, hm, hs => by
    obtain ⟨h0, h1⟩ := exact_succ h
    obtain ⟨m, rfl⟩ : ∃ m', m = m' + 1 := ⟨m - 1, by omega⟩
    have hh : has l s = true := by rw [h0, Bool.or_false] at hs; exact hs
    by_cases he : s = id
    · refine ⟨true, ?_, und_hit he⟩
      unfold bel
      rw [if_neg (by rw [h0]; simp), if_pos (by rw [he]; simp)]
    · obtain ⟨r, hb, hu⟩ := undR_is hr hid k _ m h1 (by omega) (hr.par _ (look_mem hh).1)
      refine ⟨r, ?_, by rw [und_on he hh]; exact hu⟩
      unfold bel
      rw [if_neg (by rw [h0]; simp), if_neg (show ¬ ((s.f0 == id.f0 && s.f1 == id.f1) = true) from fun e => he (eqS_iff.1 e))]
      exact hb
theorem undR_under {l : List Nod} (hr : Rooted l) {id s : Stp} (hid : outerB id = false) (hs : (has l s || outerB s) = true) : undR l id (l.length + 1) s = under l id s := by
  obtain ⟨k, hk, he⟩ := exact_is hr hs
  obtain ⟨r, hb, hu⟩ := undR_is hr hid k s (l.length + 1) he (by omega) hs
  rw [hu, under_of hb]
/-- A parent's stamp: the root, the trash, or none of time nought. -/
def ParOk (o : Opn) : Prop := o.f3.f0 = 0 → outerB o.f3 = true
theorem there_is {l : List Nod} (hr : Rooted l) {o : Opn} (hp : ParOk o) : thereR l o = (has l (parR o) || outerB (parR o)) := by
  unfold thereR parR
  by_cases h5 : o.f0 = 5
  · rw [if_pos h5]
    show (true || _) = (_ || true)
    simp
  · rw [if_neg h5]
    by_cases hz : o.f3.f0 = 0
    · rw [hp hz, hz]; simp
    · have : (o.f3.f0 == 0) = false := beq_eq_false_iff_ne.2 hz
      unfold outerB
      rw [this]; simp
theorem doR_do {l : List Nod} (hs : SrtN l) (hr : Rooted l) {o : Opn} (ho : OpOk o) (hp : ParOk o) : (doR l o).Perm (doN l o) ∧ SrtN (doR l o) := by
  have ht := there_is hr hp
  have same : l.Perm l ∧ SrtN l := ⟨List.Perm.refl _, hs⟩
  have move : ∀ par, parR o = par → has l o.f2 = true → (if (!thereR l o || undR l o.f2 (l.length + 1) (parR o)) = true then l else withR l ⟨(look l o.f2).f0, parR o, (look l o.f2).f2, (look l o.f2).f3⟩).Perm (moveN l o.f2 par) ∧ SrtN (if (!thereR l o || undR l o.f2 (l.length + 1) (parR o)) = true then l else withR l ⟨(look l o.f2).f0, parR o, (look l o.f2).f2, (look l o.f2).f3⟩) := by
    rintro par rfl hh
    have hm : moveN l o.f2 (parR o) = if (has l (parR o) || outerB (parR o)) = false then l else if under l o.f2 (parR o) = true then l else put l ⟨(look l o.f2).f0, parR o, (look l o.f2).f2, (look l o.f2).f3⟩ := by
      unfold moveN
      rw [if_neg (show ¬ (has l o.f2 = false) by rw [hh]; decide)]
    rw [hm]
    cases hb : thereR l o with
    | false =>
      have hb' : (has l (parR o) || outerB (parR o)) = false := ht ▸ hb
      rw [hb']
      exact same
    | true =>
      have hb' : (has l (parR o) || outerB (parR o)) = true := ht ▸ hb
      rw [hb', undR_under hr ho.2 hb']
      cases under l o.f2 (parR o) with
      | true => exact same
      | false => exact withR_put hs _
  unfold doR doN
  by_cases h1 : o.f0 = 1
  · rw [if_pos h1, if_pos h1]
    have hp5 : parR o = o.f3 := by unfold parR; rw [if_neg (by omega)]
    rw [ht, hp5]
    cases has l o.f2 with
    | true => exact same
    | false =>
      cases hb : (has l o.f3 || outerB o.f3) with
      | false => exact same
      | true => exact withR_put hs _
  rw [if_neg h1, if_neg h1]
  cases hh : has l o.f2 with
  | false =>
    rw [if_pos rfl]
    unfold moveN
    rw [if_pos hh, if_pos hh]
    repeat' split
    all_goals first | exact same | (rename_i h; cases h)
  | true =>
    rw [if_neg (by decide)]
    by_cases h2 : o.f0 = 2
    · rw [if_neg (show ¬ o.f0 = 3 by omega), if_neg (show ¬ o.f0 = 4 by omega), if_pos h2]
      exact move _ (by unfold parR; rw [if_neg (by omega)]) hh
    rw [if_neg h2]
    by_cases h5 : o.f0 = 5
    · rw [if_neg (show ¬ o.f0 = 3 by omega), if_neg (show ¬ o.f0 = 4 by omega), if_pos h5]
      exact move _ (by unfold parR; rw [if_pos h5]; rfl) hh
    rw [if_neg h5]
    by_cases h3 : o.f0 = 3
    · rw [if_pos h3, if_pos h3, if_pos rfl]
      exact withR_put hs _
    · have h4 : o.f0 = 4 := by rcases ho.1 with h | h | h | h | h <;> first | exact h | exact absurd h (by assumption)
      rw [if_neg h3, if_neg h3, if_pos h4, if_pos rfl]
      exact withR_put hs _
/-- All operations, one behind the other. -/
theorem fold_ref : ∀ (os : List Opn) (l l' : List Nod), SrtN l → Rooted l → l.Perm l' → (∀ o ∈ os, OpOk o ∧ ParOk o) → (os.foldl doR l).Perm (os.foldl doN l') ∧ SrtN (os.foldl doR l)
  | [], l, l', hs, hr, hp, _ => ⟨hp, hs⟩
  | o :: os, l, l', hs, hr, hp, ho => by
    have h1 := doR_do hs hr (ho o (List.mem_cons_self ..)).1 (ho o (List.mem_cons_self ..)).2
    have h2 := doN_perm hp.symm hs.nodup o
    have hq : Rooted (doN l o) := doN_rooted hr (ho o (List.mem_cons_self ..)).1
    have hr2 : Rooted (doR l o) := hq.perm h1.1 (doN_nodup o hs.nodup)
    exact fold_ref os _ _ h1.2 hr2 (h1.1.trans h2.symm) (fun x hx => ho x (List.mem_cons_of_mem _ hx))
theorem srt_ext {a b : List Nod} (hp : a.Perm b) (ha : SrtN a) (hb : SrtN b) : a = b := pw_ext (fun x y => less_asym x.f0 y.f0) a b ha hb (fun x => hp.mem_iff)
theorem OrdN.srt {l : List Nod} (h : OrdN l) (hn : (l.map fun n => n.f0).Nodup) : SrtN l := by
  refine List.pairwise_iff_getElem.2 (fun i j hi hj hij => ?_)
  have := h.strict hn hij hj
  rwa [getElem!_pos l i hi, getElem!_pos l j hj] at this
end Go.Proofs.YtiffeljmeahmkaaDoor.S
/- The document's tree: its nodes, and one of them. -/
namespace Go.Proofs.YtiffeljmeahmkaaDoor.S
open Go.RowKit Go.Proofs.YtiffeljmeahmkaaDoorW.PrintWords Go.Proofs.YtiffeljmeahmkaaDoorW.PrintLast Go.Proofs.YtiffeljmeahmkaaDoorW.PrintMore
set_option linter.unusedVariables false
set_option linter.unusedSimpArgs false
attribute [local go_sem high] eqA25
theorem three_new (w : World) (o1 o2 o3 : Obj) : (((w.alloc o1).alloc o2).alloc o3).heap[w.heap.size]? = some o1 ∧ (((w.alloc o1).alloc o2).alloc o3).heap[w.heap.size + 1]? = some o2 ∧ (((w.alloc o1).alloc o2).alloc o3).heap[w.heap.size + 1 + 1]? = some o3 ∧ Below w.heap.size w (((w.alloc o1).alloc o2).alloc o3) := by
  have s1 : (w.alloc o1).heap.size = w.heap.size + 1 := by simp
  have s2 : ((w.alloc o1).alloc o2).heap.size = w.heap.size + 1 + 1 := by simp
  have a1 := heap_alloc_new w o1
  have a2 := heap_alloc_new (w.alloc o1) o2
  have a3 := heap_alloc_new ((w.alloc o1).alloc o2) o3
  rw [s1] at a2
  rw [s2] at a3
  have b2 := below_alloc (Below.refl (w.alloc o1).heap.size (w.alloc o1)) o2
  have b3 := below_alloc (Below.refl ((w.alloc o1).alloc o2).heap.size ((w.alloc o1).alloc o2)) o3
  refine ⟨?_, ?_, a3, below_alloc (below_alloc (below_alloc (Below.refl _ _) _) _) _⟩
  · rw [b3.block _ (by omega), b2.block _ (by omega)]; exact a1
  · rw [b3.block _ (by omega)]; exact a2
abbrev trCells (vF vO : Value) (b : Stp) : Array Value := #[vF, vO, .int .i64 b.f0, .int .i64 b.f1]
theorem fold_at (fx : List Nod) (ops : List Opn) {x : Int} (h0 : 0 ≤ x) (h1 : x < ops.length) : (ops.take (x + 1).toNat).foldl doR fx = doR ((ops.take x.toNat).foldl doR fx) (rd_T28 ops x) := by
  obtain ⟨i, rfl⟩ : ∃ i : Nat, x = i := ⟨x.toNat, by omega⟩
  have hi : i < ops.length := by omega
  rw [show ((i : Int) + 1).toNat = i + 1 by omega, show (i : Int).toNat = i by omega, List.take_add_one, List.foldl_append, List.getElem?_eq_getElem hi, rd_at ops i hi]
  rfl
set_option maxHeartbeats 8000000 in
set_option maxRecDepth 100000 in
theorem rNodes_calls (w : World) (vF vO : Value) (fx : List Nod) (ops : List Opn) (b : Stp) (hF : RowN w vF fx) (hO : RowO w vO ops) (hlen : ∀ i, i ≤ ops.length → ((ops.take i).foldl doR fx).length ≤ 100000) (hol : ops.length ≤ 1000000) :
    Calls Tryd.prog 52 #[.agg (trCells vF vO b)] w fun e w' => ∃ v', e = .returned v' ∧ RowN w' v' (ops.foldl doR fx) ∧ Below w.heap.size w w' := by
  have hu := Tryd.underlying50
  have hu1 := Tryd.underlying25
  obtain ⟨AF, cF, rfl, hcF, hCF⟩ := hF
  obtain ⟨AO, cO, rfl, hcO, hCO⟩ := hO
  have HF := Aside0.mk (show RowN w (.slice AF fx.length cF) fx from ⟨AF, cF, rfl, hcF, hCF⟩)
  have HO := Aside0.mk (show RowO w (.slice AO ops.length cO) ops from ⟨AO, cO, rfl, hcO, hCO⟩)
  have HL := Aside0.mk hlen
  have HOL := Aside0.mk hol
  have BX := Aside0.mk (heap_alloc_new w (.cells (trCells (.slice AF fx.length cF) (.slice AO ops.length cO) b) 50))
  have HB := Aside0.mk (below_alloc (Below.refl w.heap.size w) (.cells (trCells (.slice AF fx.length cF) (.slice AO ops.length cO) b) 50))
  clear hcF hCF hcO hCO hlen hol
  go_enter Tryd.func52, Tryd.ntmps52
  go_wp2_with fail
  try go_frame
  go_loopg [3, 4] (ops.length + 1) (fun kq pl p wr => ∃ (x : Int) (vl : Value), Aside0 ((kq : Int) + x = (ops.length : Int) + 1 ∧ 0 ≤ x ∧ x ≤ (ops.length : Int)) ∧ p = .int .i64 x ∧ pl = vl ∧ Aside0 (RowN wr vl ((ops.take x.toNat).foldl doR fx)) ∧ Aside0 (wr.heap[w.heap.size]? = some (.cells (trCells (.slice AF fx.length cF) (.slice AO ops.length cO) b) 50 (0, 0))) ∧ Aside0 (Below w.heap.size w wr))
  case atStart => exact ⟨0, _, ⟨by omega⟩, rfl, rfl, ⟨HF.out.below HB.out⟩, BX, HB⟩
  case round =>
    clear BX HB
    obtain ⟨x, vl, HK, rfl, rfl, HN, BX, HB⟩ := hrel
    obtain ⟨k1, rfl⟩ : ∃ k1, gk = k1 + 1 := ⟨((ops.length : Int) - x).toNat, by have := HK.out; omega⟩
    have h0 : 0 ≤ x := HK.out.2.1
    obtain ⟨z0, z1, z2, z3, zf⟩ := Z4 BX.out
    by_cases hx : x < (ops.length : Int)
    · have b1 : decide (x < (ops.length : Int)) = true := decide_eq_true hx
      obtain ⟨ad, e, x0, x1, x2, x3, x4, x5, x6, x7, x8⟩ := at_T28 (HO.out.below HB.out).at.2.2 x h0 hx
      cases e
      have p1 := eq_true h0
      have q1 := eq_true hx
      have hw1 : wrap64 (x + 1) = x + 1 := by have := HOL.out; unfold wrap64; omega
      have H1 := Aside0.mk hx
      have HE := Aside0.mk (fold_at fx ops h0 hx)
      have HLN := Aside0.mk (HL.out x.toNat (by omega))
      clear hx
      go_wp2_with (go_at_call 51; refine (Do_calls _ _ _ (rd_T28 ops x) HN.out HLN.out).mono ?_; rintro e w2 ⟨v2, rfl, hr2, _, hb2⟩; have HN2 := Aside0.mk hr2; have BX2 := Aside0.mk (blk_below BX.out hb2); have HB2 := Aside0.mk (below_then HB.out HB.out.size hb2); clear hr2 hb2)
      go_roundg k1
      case measure => exact Nat.lt_succ_self _
      case rel => exact ⟨x + 1, _, ⟨by have := HK.out; have := H1.out; omega⟩, (by first | rfl | rw [hw1]), rfl, ⟨by rw [HE.out]; exact HN2.out⟩, BX2, HB2⟩
    · have b1 : decide (x < (ops.length : Int)) = false := decide_eq_false hx
      have hx2 : x = (ops.length : Int) := by have := HK.out; omega
      have HE := Aside0.mk (show (ops.take x.toNat).foldl doR fx = ops.foldl doR fx by rw [hx2, show ((ops.length : Int)).toNat = ops.length by omega, List.take_length])
      clear hx hx2
      go_wp2
      go_ret
      exact ⟨_, rfl, by rw [← HE.out]; exact HN.out, HB.out⟩
end Go.Proofs.YtiffeljmeahmkaaDoor.S
/- The document's tree: parts of a row of operations, put behind others. -/
namespace Go.Proofs.YtiffeljmeahmkaaDoor.S
open Go.RowKit Go.Proofs.YtiffeljmeahmkaaDoorW.PrintWords Go.Proofs.YtiffeljmeahmkaaDoorW.PrintLast Go.Proofs.YtiffeljmeahmkaaDoorW.PrintMore
set_option linter.unusedVariables false
set_option linter.unusedSimpArgs false
/-- A part of a row, as it is read. -/
def PartO (w : World) (v : Value) (l : List Opn) : Prop := ∃ A c, v = .slice A l.length c ∧ (l = [] ∨ ∃ ad, A = some ad ∧ ∀ j u, (flat l)[j]? = some u → w.cell? (ad.add j) = some u)
theorem flat_at {l : List Opn} {k : Nat} {p : Opn} (h : l[k]? = some p) (i : Nat) (hi : i < 9) : (flat l)[k * 9 + i]? = (opC p)[i]? := by
  have h1 := flat_drop l k
  obtain ⟨hlt, rfl⟩ := List.getElem?_eq_some_iff.1 h
  have h2 : (flat l)[k * 9 + i]? = ((flat l).drop (k * 9))[i]? := by rw [List.getElem?_drop]
  rw [h2, h1, List.drop_eq_getElem_cons hlt]
  unfold flat
  rw [List.flatMap_cons, List.getElem?_append_left (by simpa [opC] using hi)]
theorem row_cells {w : World} {ad : Addr} {n : Nat} {l : List Opn} (h : Kd.C k28 w (some ad) n l) : ∀ j u, (flat l)[j]? = some u → w.cell? (ad.add j) = some u := by
  intro j u hj
  have hlt : j < l.length * 9 := by
    have := (List.getElem?_eq_some_iff.1 hj).1
    rwa [flat_length] at this
  have hn : l.length = n := h.1
  obtain ⟨ad', e, hc⟩ := h.2.2 (by omega)
  cases e
  have hk : j / 9 < l.length := by omega
  obtain ⟨cs, hcs, hK, hcell⟩ := hc (j / 9) (l[j / 9]) (List.getElem?_eq_getElem hk)
  obtain rfl := k28_open hK
  have h1 := flat_at (List.getElem?_eq_getElem hk) (j % 9) (by omega)
  rw [show j / 9 * 9 + j % 9 = j by omega, hj] at h1
  have := hcell (j % 9) u h1.symm
  rwa [show k28.sz = 9 from rfl, show j / 9 * 9 + j % 9 = j by omega] at this
theorem RowO.whole {w : World} {v : Value} {l : List Opn} (h : RowO w v l) : PartO w v l := by
  obtain ⟨A, c, rfl, hc, hC⟩ := h
  refine ⟨A, c, rfl, ?_⟩
  rcases Nat.eq_zero_or_pos l.length with h0 | hp
  · exact .inl (List.eq_nil_of_length_eq_zero h0)
  · obtain ⟨ad, e, _⟩ := hC.2.2 (by omega)
    subst e
    exact .inr ⟨ad, rfl, row_cells hC⟩
theorem PartO.below {w w1 : World} {v : Value} {l : List Opn} (h : PartO w v l) (hb : Below w.heap.size w w1) : PartO w1 v l := by
  obtain ⟨A, c, e, h⟩ := h
  refine ⟨A, c, e, h.imp id fun ⟨ad, e, hc⟩ => ⟨ad, e, fun j u hj => pw_cell_below hb (hc j u hj)⟩⟩
theorem slice_highA (w : World) (A : Option Addr) (n c i : Nat) (h : i ≤ c) : (Instr.slice 39 (.slice A n c) none (some (.int .i64 (i : Int))) none).run Tryd.prog w = .ok (.slice A i c) w := by
  unfold Instr.slice Instr.sliceBounds
  simp only [Sem.run_bind, run_underlying Tryd.underlying39, Result.andThen, Sem.run_pure, bound_run w i c h, sizeOp]
  cases A with
  | none => by_cases hc : c = 0 <;> simp [hc]
  | some ad => by_cases hc : c = 0 <;> simp [hc, Addr.add_zero']
/-- The first, and all but the first: how they are cut. -/
theorem RowO.cut {w : World} {v : Value} {l : List Opn} (h : RowO w v l) (k : Nat) (hk : k ≤ l.length) :
    (∃ v1, (∀ W : World, (Instr.slice 39 v none (some (.int .i64 (k : Int))) none).run Tryd.prog W = .ok v1 W) ∧ PartO w v1 (l.take k)) ∧
    (∃ v2, (∀ W : World, (Instr.slice 39 v (some (.int .i64 (k : Int))) none none).run Tryd.prog W = .ok v2 W) ∧ PartO w v2 (l.drop k) ∧ RowO w v2 (l.drop k)) := by
  obtain ⟨A, c, rfl, hc, hC⟩ := h
  have hw := RowO.whole ⟨A, c, rfl, hc, hC⟩
  refine ⟨⟨_, fun W => slice_highA W A l.length c k (by omega), A, c, by rw [List.length_take, Nat.min_eq_left hk], ?_⟩, ⟨_, fun W => slice_low W A l.length c k hk, ?_⟩⟩
  · rcases Nat.eq_zero_or_pos l.length with h0 | hp
    · exact .inl (by rw [List.eq_nil_of_length_eq_zero h0]; simp)
    · obtain ⟨ad, e, _⟩ := hC.2.2 (by omega)
      subst e
      refine .inr ⟨ad, rfl, fun j u hj => row_cells hC j u ?_⟩
      rw [← flat_take] at hj
      have hj2 := (List.getElem?_eq_some_iff.1 hj).1
      rw [List.length_take] at hj2
      rwa [List.getElem?_take_of_lt (by omega)] at hj
  · have hr : RowO w (.slice (if c = k then A else A.map (·.add (k * 9))) (l.length - k) (c - k)) (l.drop k) := by
      refine ⟨_, c - k, by rw [List.length_drop], by rw [List.length_drop]; omega, rfl, ?_, fun hp => ?_⟩
      · have := hC.2.1
        rw [List.length_drop]
        omega
      · rw [List.length_drop] at hp
        obtain ⟨ad, e, hcl⟩ := hC.2.2 (by omega)
        subst e
        rw [if_neg (by omega)]
        refine ⟨ad.add (k * 9), rfl, fun j p hj => ?_⟩
        rw [List.getElem?_drop] at hj
        obtain ⟨cs, h1, h2, h3⟩ := hcl (k + j) p hj
        refine ⟨cs, h1, h2, fun i u hu => ?_⟩
        have := h3 i u hu
        rw [Addr.add_add, show k * 9 + (j * k28.sz + i) = (k + j) * k28.sz + i by rw [show k28.sz = 9 from rfl]; omega]
        exact this
    exact ⟨hr.whole, hr⟩
theorem app_none {w : World} {B : Nat} {v : Value} {l : List Opn} (h : w.ownsRow B 28 9 v l.length (flat l)) (c : Nat) (ty : TypeId) : (Builtin.append_ #[39, 39] ty #[v, .slice none 0 c]).run Tryd.prog w = .ok v w := by
  obtain ⟨i0, hi, hz⟩ := Option.map_eq_some_iff.1 infoOp
  simp only [Prod.mk.injEq] at hz
  obtain ⟨hz0, hz1, hz2⟩ := hz
  rcases h.2 with ⟨rfl, h0⟩ | ⟨g, cap, cur, rfl, hB, hg, hle, _⟩
  · simp [Builtin.append_, run_underlying Tryd.underlying39, sizeOf, typeInfo, hi, Builtin.lenOf, Builtin.firstCells, loadCells, loadCellsFrom]
  · simp [Builtin.append_, run_underlying Tryd.underlying39, sizeOf, typeInfo, hi, Builtin.lenOf, Builtin.firstCells, loadCells, loadCellsFrom, storeCells, hle]
theorem appO_run {w : World} {B : Nat} {v vs : Value} {l ns : List Opn} (h : w.ownsRow B 28 9 v l.length (flat l)) (hB : B ≤ w.heap.size) (hs : PartO w vs ns) (hl : l.length + ns.length ≤ 1000001) (ty : TypeId) :
    ∃ v' w', (Builtin.append_ #[39, 39] ty #[v, vs]).run Tryd.prog w = .ok v' w' ∧ w'.ownsRow B 28 9 v' (l ++ ns).length (flat (l ++ ns)) ∧ (∀ g, g < B → w'.heap[g]? = w.heap[g]?) ∧ (∀ {b w0}, Below b w0 w → b ≤ B → Below b w0 w') := by
  obtain ⟨A, c, rfl, hs⟩ := hs
  obtain ⟨i0, hi, hz⟩ := Option.map_eq_some_iff.1 infoOp
  simp only [Prod.mk.injEq] at hz
  obtain ⟨hz0, hz1, hz2⟩ := hz
  have some_ : ∀ ad : Addr, A = some ad → (∀ j u, (flat ns)[j]? = some u → w.cell? (ad.add j) = some u) → ∃ v' w', (Builtin.append_ #[39, 39] ty #[v, .slice A ns.length c]).run Tryd.prog w = .ok v' w' ∧ w'.ownsRow B 28 9 v' (l ++ ns).length (flat (l ++ ns)) ∧ (∀ g, g < B → w'.heap[g]? = w.heap[g]?) ∧ (∀ {b w0}, Below b w0 w → b ≤ B → Below b w0 w') := by
    rintro ad rfl hv
    obtain ⟨v', w', hrun, ho, hg, _, hat⟩ := run_append_own_at (P := Tryd.prog) w B 39 ty 28 i0 _ 9 88 Tryd.underlying39 hi hz0 hz1 hz2 rfl (by decide) v l.length (flat l) h ad ns.length c (flat ns) (flat_length ns) hv (flat_one ns) (by simp only [maxLen]; omega) (by omega) hB
    have hblk : ∀ g, g < B → w'.heap[g]? = w.heap[g]? := fun g hgB => hg.block g (by omega) (fun e => by have := (h.lt g e.symm).1; omega)
    refine ⟨v', w', hrun, ?_, hblk, fun {b w0} hb hbB => hb.trans ⟨hg.os, hg.tape, hg.output, hg.size, fun k hk => hblk k (by omega)⟩⟩
    rw [List.length_append, flat_append]
    exact ho
  rcases hs with rfl | ⟨ad, e, hv⟩
  · cases A with
    | none => exact ⟨v, w, app_none h c ty, by rw [List.append_nil]; exact h, fun _ _ => rfl, fun hb _ => hb⟩
    | some ad => exact some_ ad rfl (fun j u hj => by simp [flat] at hj)
  · exact some_ ad e hv
section
variable {ops : Array Oper} {rest : List Oper} {oo : Oper} {a : Act} {Q : Exit → Act → World → Prop} {w : World}
theorem wl_appO {B : Nat} {v vs : Value} {l ns : List Opn} (s x : Operand) (hop : oo.op = .call { callee := .builtin .append, args := #[s, x], argTypes := #[39, 39] }) (hs : a.eval s = v) (hx : a.eval x = vs)
    (h0 : w.ownsRow B 28 9 v l.length (flat l)) (hB : B ≤ w.heap.size) (hp : PartO w vs ns) (hl : l.length + ns.length ≤ 1000001)
    (h : ∀ v' w', w'.ownsRow B 28 9 v' (l ++ ns).length (flat (l ++ ns)) → (∀ g, g < B → w'.heap[g]? = w.heap[g]?) → (∀ {b w0}, Below b w0 w → b ≤ B → Below b w0 w') → wpList Tryd.prog ops Q rest (a.put oo.dst v') w') (hg : oo.guard = none := by rfl) : wpList Tryd.prog ops Q (oo :: rest) a w := by
  refine wpList_plain hg fun K' hK' => ?_
  obtain ⟨v', w', hrun, h1, h2, h3⟩ := appO_run h0 hB hp hl oo.type
  unfold Oper.wp execOp
  simp only [hop, resolve, invoke, builtin, Sem.run_bind, Sem.run_pure, Result.andThen_ok, List.map_toArray, List.map_cons, List.map_nil, hs, hx, hrun]
  exact hK' _ _ (h v' w' h1 h2 h3)
end
theorem one_part (W : World) (o : Opn) : PartO (W.alloc (.cells (opCells o) 28)) (.slice (some ⟨W.heap.size, 0, none⟩) 1 1) [o] := by
  refine ⟨_, 1, rfl, .inr ⟨_, rfl, fun j u hj => ?_⟩⟩
  have h := blk_cell (heap_alloc_new W (.cells (opCells o) 28)) j
  rw [show (⟨W.heap.size, 0, none⟩ : Addr).add j = ⟨W.heap.size, j, none⟩ from add_zero' _ _, h, ← hj]
  simp [flat, opC]
theorem own_row {w : World} {B : Nat} {v : Value} {l : List Opn} (h : w.ownsRow B 28 9 v l.length (flat l)) : RowO w v l := by
  obtain ⟨A, c, e, hc, hC⟩ := Kd.R_reads (OpsAt.of_row h)
  exact ⟨A, c, e, hc, hC⟩
end Go.Proofs.YtiffeljmeahmkaaDoor.S
