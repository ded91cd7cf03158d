/- The document's tree: where a node stands. -/
import Derived.Test.YtlfgdaiegefjiaaDoorSA
import Derived.Test.YtlfgdaiegefjiaaDoorOA
import Derived.Test.YtlfgdaiegefjiaaDoorQc
import Derived.Test.YtlfgdaiegefjiaaDoorSx8
import Derived.Test.YtlfgdaiegefjiaaDoorSC
import Derived.Test.YtlfgdaiegefjiaaDoorPa
namespace Go.Proofs.YtlfgdaiegefjiaaDoor.S
open Go.RowKit Go.Proofs.YtlfgdaiegefjiaaDoorW.PrintWords Go.Proofs.YtlfgdaiegefjiaaDoorW.PrintLast Go.Proofs.YtlfgdaiegefjiaaDoorW.PrintMore
set_option linter.unusedVariables false
set_option linter.unusedSimpArgs false
attribute [local go_sem high] eqA23
/-- A row of nodes, and one of operations, that is only read. -/
def RowN (w : World) (v : Value) (l : List Nod) : Prop := ∃ A c, v = .slice A l.length c ∧ l.length ≤ c ∧ Kd.C k72 w A l.length l
def RowO (w : World) (v : Value) (l : List Opn) : Prop := ∃ A c, v = .slice A l.length c ∧ l.length ≤ c ∧ Kd.C k25 w A l.length l
theorem RowN.below {w w1 : World} {v : Value} {l : List Nod} (h : RowN w v l) (hb : Below w.heap.size w w1) : RowN w1 v l := by
 obtain ⟨A, c, e, hc, hC⟩ := h
 exact ⟨A, c, e, hc, Kd.C_below hC hb⟩
theorem RowO.below {w w1 : World} {v : Value} {l : List Opn} (h : RowO w v l) (hb : Below w.heap.size w w1) : RowO w1 v l := by
 obtain ⟨A, c, e, hc, hC⟩ := h
 exact ⟨A, c, e, hc, Kd.C_below hC hb⟩
theorem RowN.at {w : World} {A : Option Addr} {n c : Nat} {l : List Nod} (h : RowN w (.slice A n c) l) : n = l.length ∧ l.length ≤ c ∧ Kd.C k72 w A l.length l := by
 obtain ⟨A', c', e, hc, hC⟩ := h
 cases e
 exact ⟨rfl, hc, hC⟩
theorem RowO.at {w : World} {A : Option Addr} {n c : Nat} {l : List Opn} (h : RowO w (.slice A n c) l) : n = l.length ∧ l.length ≤ c ∧ Kd.C k25 w A l.length l := by
 obtain ⟨A', c', e, hc, hC⟩ := h
 cases e
 exact ⟨rfl, hc, hC⟩
theorem RowN.nil (w : World) : RowN w (.slice none 0 0) [] := ⟨none, 0, rfl, Nat.le_refl _, rfl, by simp, fun h => absurd h (by simp)⟩
theorem RowO.nil (w : World) : RowO w (.slice none 0 0) [] := ⟨none, 0, rfl, Nat.le_refl _, rfl, by simp, fun h => absurd h (by simp)⟩
/-- Where a node stands. -/
def fI (l : List Nod) (s : Stp) : Int := match lk l s with | some x => (x.1 : Int) | none => -1
theorem lk_first {l : List Nod} {s : Stp} : ∀ {i : Nat} (h : i < l.length), (∀ j : Nat, j < i → (l[j]!).f0 ≠ s) → (l[i]!).f0 = s → lk l s = some (i, l[i]!) := by
 induction l with
 | nil => intro i h; simp at h
 | cons x l ih =>
  intro i h h1 h2
  unfold lk
  cases i with
  | zero =>
   have h3 : x.f0 = s := h2
   rw [if_pos (eqS_iff.2 h3.symm)]; rfl
  | succ i =>
   have h3 : x.f0 ≠ s := h1 0 (by omega)
   rw [if_neg (fun e => h3 (eqS_iff.1 e).symm), ih (by simpa using h) (fun j hj => by simpa using h1 (j + 1) (by omega)) (by simpa using h2)]
   simp
theorem lk_nowhere {l : List Nod} {s : Stp} (h : ∀ j : Nat, j < l.length → (l[j]!).f0 ≠ s) : lk l s = none := by
 cases hx : lk l s with
 | none => rfl
 | some x =>
  obtain ⟨i, m⟩ := x
  obtain ⟨h1, h2⟩ := lk_some hx
  obtain ⟨hi, rfl⟩ := List.getElem?_eq_some_iff.1 h1
  exact absurd h2 (by have := h i hi; rw [getElem!_pos l i hi] at this; exact this)
theorem fI_hit {l : List Nod} {s : Stp} {x : Int} (h0 : 0 ≤ x) (h1 : x < l.length) (h : ∀ j : Nat, (j : Int) < x → (l[j]!).f0 ≠ s) (he : (rd_T72 l x).f0 = s) : fI l s = x := by
 obtain ⟨i, rfl⟩ : ∃ i : Nat, x = i := ⟨x.toNat, by omega⟩
 rw [rdN_at l i (by omega)] at he
 unfold fI
 rw [lk_first (by omega) (fun j hj => h j (by omega)) he]
theorem fI_none {l : List Nod} {s : Stp} (h : ∀ j : Nat, (j : Int) < (l.length : Int) → (l[j]!).f0 ≠ s) : fI l s = -1 := by
 unfold fI
 rw [lk_nowhere (fun j hj => h j (by omega))]
theorem fI_more {l : List Nod} {s : Stp} {x : Int} (h0 : 0 ≤ x) (h1 : x < l.length) (h : ∀ j : Nat, (j : Int) < x → (l[j]!).f0 ≠ s) (he : (rd_T72 l x).f0 ≠ s) : ∀ j : Nat, (j : Int) < x + 1 → (l[j]!).f0 ≠ s := by
 intro j hj
 by_cases e : (j : Int) = x
 · subst e
   rw [rdN_at l j (by omega)] at he
   exact he
 · exact h j (by omega)
/-- What it says: a node of the number, where it stands; or that there is none. -/
theorem fI_is (l : List Nod) (s : Stp) : (has l s = true ∧ 0 ≤ fI l s ∧ fI l s < l.length ∧ rd_T72 l (fI l s) = look l s) ∨ (has l s = false ∧ fI l s = -1) := by
 unfold has look fI
 cases hx : lk l s with
 | none => exact .inr ⟨rfl, rfl⟩
 | some x =>
  obtain ⟨i, m⟩ := x
  obtain ⟨h1, h2⟩ := lk_some hx
  obtain ⟨hi, rfl⟩ := List.getElem?_eq_some_iff.1 h1
  exact .inl ⟨rfl, by show (0 : Int) ≤ (i : Int); omega, by show (i : Int) < _; omega, by show rd_T72 l (i : Int) = l[i]; rw [rdN_at l i hi, getElem!_pos l i hi]⟩
theorem stp_ne {a : Stp} {s : Stp} (h : a ≠ s) : (a.f0 == s.f0 && a.f1 == s.f1) = false ∧ (a.f0 = s.f0 ∧ a.f1 = s.f1) = False := ⟨eqS_false h, eq_false (fun e => h (eqS_iff.1 (by unfold eqS; rw [e.1, e.2]; simp)))⟩
set_option maxHeartbeats 4000000 in
set_option maxRecDepth 100000 in
theorem find_calls (w : World) (v : Value) (l : List Nod) (s : Stp) (hr : RowN w v l) (hl : l.length ≤ 1000000) : Calls Tryd.prog 83 #[v, .agg #[.int .i64 s.f0, .int .i64 s.f1]] w fun e w' => e = .returned (.int .i64 (fI l s)) ∧ Below w.heap.size w w' := by
 obtain ⟨A, c, rfl, hc, hC⟩ := hr
 have HC := Aside0.mk hC
 have HL := Aside0.mk hl
 have BX := Aside0.mk (heap_alloc_new w (.cells #[.int .i64 s.f0, .int .i64 s.f1] 23))
 have HB := Aside0.mk (below_alloc (Below.refl w.heap.size w) (.cells #[.int .i64 s.f0, .int .i64 s.f1] 23))
 clear hC hc hl
 go_enter Tryd.func83, Tryd.ntmps83
 go_wp2_with fail
 try go_frame
 go_loopg [5] (l.length + 1) (fun kq p wr => ∃ x : Int, Aside0 ((kq : Int) + x = (l.length : Int) + 1 ∧ 0 ≤ x ∧ x ≤ (l.length : Int)) ∧ p = .int .i64 x ∧ Aside0 (∀ j : Nat, (j : Int) < x → (l[j]!).f0 ≠ s) ∧ Aside0 (wr.heap[w.heap.size]? = some (.cells #[.int .i64 s.f0, .int .i64 s.f1] 23 (0, 0))) ∧ Aside0 (Below w.heap.size w wr))
 case atStart => exact ⟨0, ⟨by omega⟩, rfl, ⟨fun j hj => by omega⟩, BX, HB⟩
 case round =>
  clear BX HB
  obtain ⟨x, HK, rfl, HJ, BX, HB⟩ := hrel
  obtain ⟨k1, rfl⟩ : ∃ k1, gk = k1 + 1 := ⟨((l.length : Int) - x).toNat, by have := HK.out; omega⟩
  have h0 : 0 ≤ x := HK.out.2.1
  by_cases hx : x < (l.length : Int)
  · have b1 : decide (x < (l.length : Int)) = true := decide_eq_true hx
    obtain ⟨ad, e, x0, x1, x2, x3, x4, x5⟩ := at_T72 (Kd.C_below HC.out HB.out) x h0 hx
    cases e
    have p1 := eq_true h0
    have q1 := eq_true hx
    have hw1 : wrap64 (x + 1) = x + 1 := by have := HL.out; unfold wrap64; omega
    have H0 := Aside0.mk h0
    have H1 := Aside0.mk hx
    obtain ⟨y0, y1, _, _⟩ := Z2 BX.out
    clear hx
    go_upto_region 4 with fail
    go_still_tail 6, (by kernel_rfl)
    have HBd := Aside0.mk HB.out.drew
    have BXd := Aside0.mk (show wr.drew.heap[w.heap.size]? = _ from BX.out)
    by_cases he : (rd_T72 l x).f0 = s
    · have HE := Aside0.mk (fI_hit H0.out H1.out HJ.out he)
      have e0 : (rd_T72 l x).f0.f0 = s.f0 := by rw [he]
      have e1 : (rd_T72 l x).f0.f1 = s.f1 := by rw [he]
      clear he
      go_wp2
      go_ret
      exact ⟨by rw [HE.out]; rfl, HBd.out⟩
    · have HN := Aside0.mk (fI_more H0.out H1.out HJ.out he)
      obtain ⟨e0, e1⟩ := stp_ne he
      clear he
      go_wp2
      go_roundg k1
      case measure => exact Nat.lt_succ_self _
      case rel => exact ⟨x + 1, ⟨by have := HK.out; have := H1.out; omega⟩, (by first | rfl | rw [hw1]), HN, BXd, HBd⟩
  · have b1 : decide (x < (l.length : Int)) = false := decide_eq_false hx
    have hxe : x = (l.length : Int) := by have := HK.out; omega
    have HE := Aside0.mk (fI_none (l := l) (s := s) (by have := HJ.out; rw [hxe] at this; exact this))
    clear hx hxe
    go_wp2
    go_ret
    exact ⟨by rw [HE.out]; rfl, HB.out⟩
end Go.Proofs.YtlfgdaiegefjiaaDoor.S
/- The document's tree: whether a stamp is a node's, or below it. -/
namespace Go.Proofs.YtlfgdaiegefjiaaDoor.S
open Go.RowKit Go.Proofs.YtlfgdaiegefjiaaDoorW.PrintWords Go.Proofs.YtlfgdaiegefjiaaDoorW.PrintLast Go.Proofs.YtlfgdaiegefjiaaDoorW.PrintMore
set_option linter.unusedVariables false
set_option linter.unusedSimpArgs false
attribute [local go_sem high] eqA23
/-- What the document's under says, by so many rounds. -/
def undR (l : List Nod) (id : Stp) : Nat → Stp → Bool
 | 0, _ => true
 | k + 1, s => if eqS s id = true then true else if has l s = true then undR l id k (look l s).f1 else false
theorem und_hit {l : List Nod} {id s : Stp} {k : Nat} (h : s = id) : undR l id (k + 1) s = true := by
 unfold undR; rw [if_pos (eqS_iff.2 h)]
theorem und_no {l : List Nod} {id s : Stp} {k : Nat} (h : s ≠ id) (hh : has l s = false) : undR l id (k + 1) s = false := by
 unfold undR; rw [if_neg (fun e => h (eqS_iff.1 e)), if_neg (by rw [hh]; simp)]
theorem und_on {l : List Nod} {id s : Stp} {k : Nat} (h : s ≠ id) (hh : has l s = true) : undR l id (k + 1) s = undR l id k (look l s).f1 := by
 conv => lhs; unfold undR
 rw [if_neg (fun e => h (eqS_iff.1 e)), if_pos hh]
theorem two_boxes (w : World) (a b : Stp) : ((w.alloc (.cells #[.int .i64 a.f0, .int .i64 a.f1] 23)).alloc (.cells #[.int .i64 b.f0, .int .i64 b.f1] 23)).heap[w.heap.size]? = some (.cells #[.int .i64 a.f0, .int .i64 a.f1] 23) ∧ ((w.alloc (.cells #[.int .i64 a.f0, .int .i64 a.f1] 23)).alloc (.cells #[.int .i64 b.f0, .int .i64 b.f1] 23)).heap[w.heap.size + 1]? = some (.cells #[.int .i64 b.f0, .int .i64 b.f1] 23) ∧ Below w.heap.size w ((w.alloc (.cells #[.int .i64 a.f0, .int .i64 a.f1] 23)).alloc (.cells #[.int .i64 b.f0, .int .i64 b.f1] 23)) := by
 have h1 := heap_alloc_new w (.cells #[.int .i64 a.f0, .int .i64 a.f1] 23)
 have h2 := heap_alloc_new (w.alloc (.cells #[.int .i64 a.f0, .int .i64 a.f1] 23)) (.cells #[.int .i64 b.f0, .int .i64 b.f1] 23)
 have hs : (w.alloc (.cells #[.int .i64 a.f0, .int .i64 a.f1] 23)).heap.size = w.heap.size + 1 := by simp
 rw [hs] at h2
 refine ⟨?_, h2, below_alloc (below_alloc (Below.refl _ _) _) _⟩
 have h3 := (below_alloc (Below.refl (w.alloc (.cells #[.int .i64 a.f0, .int .i64 a.f1] 23)).heap.size (w.alloc (.cells #[.int .i64 a.f0, .int .i64 a.f1] 23))) (.cells #[.int .i64 b.f0, .int .i64 b.f1] 23)).block w.heap.size (by omega)
 rw [h3]
 exact h1
set_option maxHeartbeats 4000000 in
set_option maxRecDepth 100000 in
theorem under_calls (w : World) (v : Value) (l : List Nod) (s id : Stp) (hr : RowN w v l) (hl : l.length ≤ 1000000) : Calls Tryd.prog 85 #[v, .agg #[.int .i64 s.f0, .int .i64 s.f1], .agg #[.int .i64 id.f0, .int .i64 id.f1]] w fun e w' => e = .returned (.bool (undR l id (l.length + 1) s)) ∧ Below w.heap.size w w' := by
 obtain ⟨A, c, rfl, hc, hC⟩ := hr
 have HC := Aside0.mk (show RowN w (.slice A l.length c) l from ⟨A, c, rfl, hc, hC⟩)
 have HL := Aside0.mk hl
 obtain ⟨bx, by_, hb⟩ := two_boxes w s id
 have BX := Aside0.mk bx
 have BY := Aside0.mk by_
 have HB := Aside0.mk hb
 clear hC hc hl bx by_ hb
 go_enter Tryd.func85, Tryd.ntmps85
 go_wp2_with fail
 try go_frame
 go_loopg [7, 8] (l.length + 2) (fun kq p _ wr => ∃ (x : Int) (s' : Stp) (n : Nat), Aside0 (kq = n + 1 ∧ (n : Int) + x = (l.length : Int) + 1 ∧ 0 ≤ x ∧ x ≤ (l.length : Int) + 1) ∧ p = .int .i64 x ∧ Aside0 (undR l id n s' = undR l id (l.length + 1) s) ∧ Aside0 (wr.heap[w.heap.size]? = some (.cells #[.int .i64 s'.f0, .int .i64 s'.f1] 23 (0, 0))) ∧ Aside0 (wr.heap[w.heap.size + 1]? = some (.cells #[.int .i64 id.f0, .int .i64 id.f1] 23 (0, 0))) ∧ Aside0 (Below w.heap.size w wr))
 case atStart => exact ⟨0, s, l.length + 1, ⟨by omega⟩, rfl, ⟨rfl⟩, BX, BY, HB⟩
 case round =>
  clear BX BY HB
  obtain ⟨x, s', n, HK, rfl, HU, BX, BY, HB⟩ := hrel
  obtain ⟨k1, rfl⟩ : ∃ k1, gk = k1 + 1 := ⟨n, HK.out.1⟩
  have h0 : 0 ≤ x := HK.out.2.2.1
  by_cases hx : x ≤ (l.length : Int)
  · have b1 : decide (x ≤ (l.length : Int)) = true := decide_eq_true hx
    obtain ⟨n, rfl⟩ : ∃ n', n = n' + 1 := ⟨n - 1, by have := HK.out; omega⟩
    have q1 := eq_true hx
    have hw1 : wrap64 (x + 1) = x + 1 := by have := HL.out; unfold wrap64; omega
    have H1 := Aside0.mk hx
    obtain ⟨y0, y1, yf0, yf1⟩ := Z2 BX.out
    obtain ⟨z0, z1, _, _⟩ := Z2 BY.out
    clear hx
    by_cases he : s' = id
    · have HE := Aside0.mk (HU.out.symm.trans (und_hit he))
      have e0 : s'.f0 = id.f0 := by rw [he]
      have e1 : s'.f1 = id.f1 := by rw [he]
      clear he
      go_wp2
      go_ret
      exact ⟨by rw [HE.out]; rfl, HB.out⟩
    · have HN := Aside0.mk he
      obtain ⟨e0, e1⟩ := stp_ne he
      clear he
      rcases fI_is l s' with ⟨f1, f2, f3, f4⟩ | ⟨f1, f2⟩
      · have HE := Aside0.mk ((und_on (k := n) HN.out f1).symm.trans HU.out)
        have F4 := Aside0.mk f4
        have F1 := Aside0.mk f1
        have g1 : decide (fI l s' < 0) = false := decide_eq_false (by omega)
        have g2 : (fI l s' < 0) = False := eq_false (by omega)
        have F2 := Aside0.mk f2
        have F3 := Aside0.mk f3
        clear f1 f2 f3 f4
        go_upto_region 9 with (go_at_call 83; refine (find_calls _ _ l s' (HC.out.below HB.out) HL.out).mono ?_; rintro e w2 ⟨rfl, hb2⟩; have HB2 := Aside0.mk (below_then HB.out HB.out.size hb2); have BX2 := Aside0.mk ((hb2.block w.heap.size (blk_lt BX.out)).trans BX.out); have BY2 := Aside0.mk ((hb2.block (w.heap.size + 1) (blk_lt BY.out)).trans BY.out); clear hb2)
        clear y0 y1 yf0 yf1 z0 z1
        obtain ⟨y0, y1, yf0, yf1⟩ := Z2 BX2.out
        obtain ⟨ad, e, x0, x1, x2, x3, x4, x5⟩ := at_T72 (HC.out.below HB2.out).at.2.2 (fI l s') F2.out F3.out
        cases e
        rw [F4.out] at x0 x1 x2 x3 x4 x5
        have p1 := eq_true F2.out
        have p2 := eq_true F3.out
        go_wp2
        go_roundg k1
        case measure => exact Nat.lt_succ_self _
        case rel => exact ⟨x + 1, (look l s').f1, n, ⟨by have := HK.out; have := H1.out; omega⟩, (by first | rfl | rw [hw1]), HE, ⟨blk_set2 BX2.out⟩, ⟨blk_far (blk_far BY2.out (by simp) _) (by simp) _⟩, ⟨below_set (below_set HB2.out (Nat.le_refl _)) (Nat.le_refl _)⟩⟩
      · have HE := Aside0.mk ((und_no (k := n) HN.out f1).symm.trans HU.out)
        have g1 : decide (fI l s' < 0) = true := decide_eq_true (by omega)
        have g2 : (fI l s' < 0) = True := eq_true (by omega)
        clear f1 f2
        go_wp2_with (go_at_call 83; refine (find_calls _ _ l s' (HC.out.below HB.out) HL.out).mono ?_; rintro e w2 ⟨rfl, hb2⟩; have HB2 := Aside0.mk (below_then HB.out HB.out.size hb2); clear hb2)
        go_ret
        exact ⟨by rw [← HE.out]; rfl, HB2.out⟩
  · have b1 : decide (x ≤ (l.length : Int)) = false := decide_eq_false hx
    obtain rfl : n = 0 := by have := HK.out; omega
    have HE := Aside0.mk HU.out
    clear hx
    go_wp2
    go_ret
    exact ⟨by rw [← HE.out]; rfl, HB.out⟩
end Go.Proofs.YtlfgdaiegefjiaaDoor.S
/- The document's tree: nodes with one in place of its like, or more. -/
namespace Go.Proofs.YtlfgdaiegefjiaaDoor.S
open Go.RowKit Go.Proofs.YtlfgdaiegefjiaaDoorW.PrintWords Go.Proofs.YtlfgdaiegefjiaaDoorW.PrintLast Go.Proofs.YtlfgdaiegefjiaaDoorW.PrintMore
set_option linter.unusedVariables false
set_option linter.unusedSimpArgs false
attribute [local go_sem high] eqA23
/-- A row whose block holds elements of a type. -/
def Typed (w : World) (t : TypeId) (v : Value) : Prop := ∀ A n c, v = .slice (some A) n c → ∃ cs, w.heap[A.block]? = some (.cells cs t (0, 0))
theorem typed_own {w : World} {B t size n : Nat} {v : Value} {xs : List Value} (h : w.ownsRow B t size v n xs) : Typed w t v := by
 intro A m c e
 rcases h.2 with ⟨rfl, _⟩ | ⟨g, cap, cur, rfl, _, hg, _⟩
 · cases e
 · cases e; exact ⟨_, hg⟩
/-- A row whose block is none of before. -/
def Newer (b : Nat) (v : Value) : Prop := ∀ A n c, v = .slice (some A) n c → b ≤ A.block
theorem newer_own {w : World} {b B t size n : Nat} {v : Value} {xs : List Value} (h : w.ownsRow B t size v n xs) (hb : b ≤ B) : Newer b v := by
 intro A m c e
 rcases h.2 with ⟨rfl, _⟩ | ⟨g, cap, cur, rfl, hB, hg, _⟩
 · cases e
 · cases e; exact Nat.le_trans hb hB
theorem Newer.mono {b b' : Nat} {v : Value} (h : Newer b v) (hb : b' ≤ b) : Newer b' v := fun A n c e => Nat.le_trans hb (h A n c e)
/-- A row's block is one of S; or there is nothing in it. -/
def InS (S : Nat → Prop) (v : Value) (e : Prop) : Prop := ∀ A n c, v = .slice (some A) n c → e ∨ S A.block
theorem InS.nil (S : Nat → Prop) (e : Prop) : InS S (.slice none 0 0) e := fun A n c h => by cases h
theorem InS.next {S : Nat → Prop} {b : Nat} {w : World} {t : TypeId} {v v2 : Value} {α : Type} {l l2 : List α} (h : InS S v (l = [])) (ht : (v2 = v ∧ l2 = l) ∨ (Typed w t v2 ∧ Newer b v2)) (hS : ∀ k, b ≤ k → S k) : InS S v2 (l2 = []) := by
 rcases ht with ⟨rfl, rfl⟩ | ⟨_, ht⟩
 · exact h
 · exact fun A n c e => .inr (hS _ (ht A n c e))
theorem Typed.below {w w1 : World} {t : TypeId} {v : Value} (h : Typed w t v) (hb : Below w.heap.size w w1) : Typed w1 t v := fun A n c e => by
 obtain ⟨cs, hc⟩ := h A n c e
 exact ⟨cs, (hb.block _ (blk_lt hc)).trans hc⟩
theorem Typed.set {w : World} {t : TypeId} {v : Value} (h : Typed w t v) (a : Addr) (u : Value) : Typed (w.setCell a u) t v := fun A n c e => by
 obtain ⟨cs, hc⟩ := h A n c e
 by_cases he : a.block = A.block
 · rw [← he] at hc ⊢
   exact ⟨_, by simp only [World.setCell, Array.getElem?_modify, hc]; rfl⟩
 · exact ⟨cs, blk_far hc (fun q => he q.symm) u⟩
/-- A row of nodes that no box lies in: it was there before block b, or its block holds nodes. -/
def RowS (b : Nat) (w : World) (v : Value) (l : List Nod) : Prop := RowN w v l ∧ ∀ A n c, v = .slice (some A) n c → l = [] ∨ A.block < b ∨ ∃ cs, w.heap[A.block]? = some (.cells cs 72 (0, 0))
def RowSO (b : Nat) (w : World) (v : Value) (l : List Opn) : Prop := RowO w v l ∧ ∀ A n c, v = .slice (some A) n c → l = [] ∨ A.block < b ∨ ∃ cs, w.heap[A.block]? = some (.cells cs 25 (0, 0))
theorem RowS.nil (b : Nat) (w : World) : RowS b w (.slice none 0 0) [] := ⟨RowN.nil w, fun A n c e => by cases e⟩
theorem RowSO.nil (b : Nat) (w : World) : RowSO b w (.slice none 0 0) [] := ⟨RowO.nil w, fun A n c e => by cases e⟩
theorem RowS.of {b : Nat} {w : World} {v : Value} {l : List Nod} (h : RowN w v l) (ht : Typed w 72 v) : RowS b w v l := ⟨h, fun A n c e => .inr (.inr (ht A n c e))⟩
theorem RowSO.of {b : Nat} {w : World} {v : Value} {l : List Opn} (h : RowO w v l) (ht : Typed w 25 v) : RowSO b w v l := ⟨h, fun A n c e => .inr (.inr (ht A n c e))⟩
theorem RowS.below {b : Nat} {w w1 : World} {v : Value} {l : List Nod} (h : RowS b w v l) (hb : Below w.heap.size w w1) : RowS b w1 v l :=
 ⟨h.1.below hb, fun A n c e => (h.2 A n c e).imp id (fun q => q.imp id (fun ⟨cs, hc⟩ => ⟨cs, (hb.block _ (blk_lt hc)).trans hc⟩))⟩
theorem RowSO.below {b : Nat} {w w1 : World} {v : Value} {l : List Opn} (h : RowSO b w v l) (hb : Below w.heap.size w w1) : RowSO b w1 v l :=
 ⟨h.1.below hb, fun A n c e => (h.2 A n c e).imp id (fun q => q.imp id (fun ⟨cs, hc⟩ => ⟨cs, (hb.block _ (blk_lt hc)).trans hc⟩))⟩
theorem cell_apart {w : World} {a p : Addr} (h : a.block ≠ p.block) (u : Value) : (w.setCell p u).cell? a = w.cell? a := by
 unfold World.cell? World.setCell
 simp only [Array.getElem?_modify]
 rw [if_neg (fun e => h e.symm)]
theorem add_block (a : Addr) (n : Nat) : (a.add n).block = a.block := by unfold Addr.add; split <;> rfl
theorem RowS.set {b : Nat} {w : World} {v : Value} {l : List Nod} (h : RowS b w v l) {g : Nat} {t : TypeId} {cs : Array Value} (hb : b ≤ g) (hg : w.heap[g]? = some (.cells cs t (0, 0))) (ht : t ≠ 72) (j : Nat) (u : Value) : RowS b (w.setCell ⟨g, j, none⟩ u) v l := by
 obtain ⟨⟨A, c, e, hc, h1, h2, h3⟩, hq⟩ := h
 have hne : ∀ ad, A = some ad → l ≠ [] → ad.block ≠ g := by
  rintro ad rfl hl hx
  rcases hq ad _ _ e with q | q | ⟨cs', q⟩
  · exact hl q
  · omega
  · rw [hx, hg] at q; cases q; exact ht rfl
 refine ⟨⟨A, c, e, hc, h1, h2, fun hp => ?_⟩, fun A' n' c' e' => ?_⟩
 · obtain ⟨ad, ea, hcl⟩ := h3 hp
   have hx := hne ad ea (fun q => by rw [q] at hp; simp at hp)
   refine ⟨ad, ea, fun i q hj => ?_⟩
   obtain ⟨cs', k1, k2, k3⟩ := hcl i q hj
   have ek := k72_open k2
   exact ⟨cs', k1, by rw [ek]; exact k72_mk _ q, fun i' u' hu => by rw [cell_apart (by rw [add_block]; exact hx)]; exact k3 i' u' hu⟩
 · rcases hq A' n' c' e' with q | q | q
   · exact .inl q
   · exact .inr (.inl q)
   · refine .inr (.inr ?_)
     obtain ⟨cs', q⟩ := q
     refine ⟨cs', blk_far q (fun hx => ?_) u⟩
     have hx : A'.block = g := hx
     rw [hx, hg] at q; cases q; exact ht rfl
theorem RowSO.set {b : Nat} {w : World} {v : Value} {l : List Opn} (h : RowSO b w v l) {g : Nat} {t : TypeId} {cs : Array Value} (hb : b ≤ g) (hg : w.heap[g]? = some (.cells cs t (0, 0))) (ht : t ≠ 25) (j : Nat) (u : Value) : RowSO b (w.setCell ⟨g, j, none⟩ u) v l := by
 obtain ⟨⟨A, c, e, hc, h1, h2, h3⟩, hq⟩ := h
 have hne : ∀ ad, A = some ad → l ≠ [] → ad.block ≠ g := by
  rintro ad rfl hl hx
  rcases hq ad _ _ e with q | q | ⟨cs', q⟩
  · exact hl q
  · omega
  · rw [hx, hg] at q; cases q; exact ht rfl
 refine ⟨⟨A, c, e, hc, h1, h2, fun hp => ?_⟩, fun A' n' c' e' => ?_⟩
 · obtain ⟨ad, ea, hcl⟩ := h3 hp
   have hx := hne ad ea (fun q => by rw [q] at hp; simp at hp)
   refine ⟨ad, ea, fun i q hj => ?_⟩
   obtain ⟨cs', k1, k2, k3⟩ := hcl i q hj
   have ek := k25_open k2
   exact ⟨cs', k1, by rw [ek]; exact k25_mk _ q, fun i' u' hu => by rw [cell_apart (by rw [add_block]; exact hx)]; exact k3 i' u' hu⟩
 · rcases hq A' n' c' e' with q | q | q
   · exact .inl q
   · exact .inr (.inl q)
   · refine .inr (.inr ?_)
     obtain ⟨cs', q⟩ := q
     refine ⟨cs', blk_far q (fun hx => ?_) u⟩
     have hx : A'.block = g := hx
     rw [hx, hg] at q; cases q; exact ht rfl
theorem infoNd : (Tryd.prog.info? 72).map (fun i => (i.zero, i.size, i.bytes)) = some (some (.agg #[.int .i64 0, .int .i64 0, .int .i64 0, .int .i64 0, .string ⟨#[]⟩, .string ⟨#[]⟩]), 6, 64) := by kernel_rfl
theorem appN_run {w : World} {B : Nat} {v : Value} {l : List Nod} (h : NodesAt w B v l) (hB : B ≤ w.heap.size) (ad : Addr) (c : Nat) (ns : List Nod) (hv : ∀ j u, (flatN ns)[j]? = some u → w.cell? (ad.add j) = some u) (hl : l.length + ns.length ≤ 1000001) (ty : TypeId) :
 ∃ v' w', (Builtin.append_ #[34, 34] ty #[v, .slice (some ad) ns.length c]).run Tryd.prog w = .ok v' w' ∧ NodesAt w' B v' (l ++ ns) ∧ (∀ g j, g < B → w'.cell? ⟨g, j, none⟩ = w.cell? ⟨g, j, none⟩) ∧ (∀ g, g < B → w'.heap[g]? = w.heap[g]?) ∧ (∀ {b w0}, Below b w0 w → b ≤ B → Below b w0 w') := by
 obtain ⟨i0, hi, hz⟩ := Option.map_eq_some_iff.1 infoNd
 simp only [Prod.mk.injEq] at hz
 obtain ⟨hz0, hz1, hz2⟩ := hz
 obtain ⟨v', w', hrun, ho, hg, _, hat⟩ := run_append_own_at (P := Tryd.prog) w B 34 ty 72 i0 _ 6 64 Tryd.underlying34 hi hz0 hz1 hz2 rfl (by decide) v l.length (flatN l) h ad ns.length c (flatN ns) (flatN_length ns) hv
  (fun u hu => by
   unfold flatN at hu
   obtain ⟨o, _, ho⟩ := List.mem_flatMap.1 hu
   exact nodC_one o u ho) (by simp only [maxLen]; omega) (by omega) hB
 have hblk : ∀ g, g < B → w'.heap[g]? = w.heap[g]? := fun g hgB => hg.block g (by omega) (fun e => by have := (h.lt g e.symm).1; omega)
 refine ⟨v', w', hrun, ?_, fun g j hgB => ?_, hblk, fun {b w0} hb hbB => ?_⟩
 · show w'.ownsRow B 72 6 v' (l ++ ns).length (flatN (l ++ ns))
   rw [List.length_append, flatN_append]
   exact ho
 · unfold World.cell?
   rw [hblk g hgB]
 · exact hb.trans ⟨hg.os, hg.tape, hg.output, hg.size, fun k hk => hblk k (by omega)⟩
section
variable {ops : Array Oper} {rest : List Oper} {oo : Oper} {a : Act} {Q : Exit → Act → World → Prop} {w : World}
theorem wl_appN {B : Nat} {v : Value} {l : List Nod} (ad : Addr) (c : Nat) (ns : List Nod) (s x : Operand) (hop : oo.op = .call { callee := .builtin .append, args := #[s, x], argTypes := #[34, 34] }) (hs : a.eval s = v) (hx : a.eval x = .slice (some ad) ns.length c)
 (h0 : NodesAt w B v l) (hB : B ≤ w.heap.size) (hv : ∀ j u, (flatN ns)[j]? = some u → w.cell? (ad.add j) = some u) (hl : l.length + ns.length ≤ 1000001)
 (h : ∀ v' w', NodesAt w' B v' (l ++ ns) → (∀ g, g < B → w'.heap[g]? = w.heap[g]?) → (∀ {b w0}, Below b w0 w → b ≤ B → Below b w0 w') → wpList Tryd.prog ops Q rest (a.put oo.dst v') w') (hg : oo.guard = none := by rfl) : wpList Tryd.prog ops Q (oo :: rest) a w := by
 refine wpList_plain hg fun K' hK' => ?_
 obtain ⟨v', w', hrun, h1, _, h2, h3⟩ := appN_run h0 hB ad c ns hv hl oo.type
 unfold Oper.wp execOp
 simp only [hop, resolve, invoke, builtin, Sem.run_bind, Sem.run_pure, Result.andThen_ok, List.map_toArray, List.map_cons, List.map_nil, hs, hx, hrun]
 exact hK' _ _ (h v' w' h1 h2 h3)
end
theorem box_cells (W : World) (x : Nod) : ∀ j u, (flatN [x])[j]? = some u → (W.alloc (.cells #[.int .i64 x.f0.f0, .int .i64 x.f0.f1, .int .i64 x.f1.f0, .int .i64 x.f1.f1, .string x.f2, .string x.f3] 72)).cell? ((⟨W.heap.size, 0, none⟩ : Addr).add j) = some u := by
 intro j u hj
 have h := blk_cell (heap_alloc_new W (.cells #[.int .i64 x.f0.f0, .int .i64 x.f0.f1, .int .i64 x.f1.f0, .int .i64 x.f1.f1, .string x.f2, .string x.f3] 72)) j
 rw [show (⟨W.heap.size, 0, none⟩ : Addr).add j = ⟨W.heap.size, j, none⟩ by unfold Addr.add; split <;> simp_all, h, ← hj]
 simp [flatN, nodC]
end Go.Proofs.YtlfgdaiegefjiaaDoor.S
/- The document's tree: nodes behind an operation. -/
namespace Go.Proofs.YtlfgdaiegefjiaaDoor.S
open Go.RowKit Go.Proofs.YtlfgdaiegefjiaaDoorW.PrintWords Go.Proofs.YtlfgdaiegefjiaaDoorW.PrintLast Go.Proofs.YtlfgdaiegefjiaaDoorW.PrintMore
set_option linter.unusedVariables false
set_option linter.unusedSimpArgs false
attribute [local go_sem high] eqA23
abbrev opCells (o : Opn) : Array Value := #[.int .i64 o.f0, .int .i64 o.f1.f0, .int .i64 o.f1.f1, .int .i64 o.f2.f0, .int .i64 o.f2.f1, .int .i64 o.f3.f0, .int .i64 o.f3.f1, .string o.f4, .string o.f5]
abbrev opVal (o : Opn) : Value := .agg #[.int .i64 o.f0, .int .i64 o.f1.f0, .int .i64 o.f1.f1, .int .i64 o.f2.f0, .int .i64 o.f2.f1, .int .i64 o.f3.f0, .int .i64 o.f3.f1, .string o.f4, .string o.f5]
end Go.Proofs.YtlfgdaiegefjiaaDoor.S
/- The document's tree, in plain words: with, Do and all operations lead to the nodes that the tree has, in order. -/
namespace Go.Proofs.YtlfgdaiegefjiaaDoor.S
open Go.RowKit Go.Proofs.YtlfgdaiegefjiaaDoorW.PrintWords Go.Proofs.YtlfgdaiegefjiaaDoorW.PrintLast Go.Proofs.YtlfgdaiegefjiaaDoorW.PrintMore
set_option linter.unusedVariables false
set_option linter.unusedSimpArgs false
/-- Nodes in strict order. -/
def SrtN (l : List Nod) : Prop := l.Pairwise fun a b => lessB a.f0 b.f0 = true
theorem less_self (a : Stp) : lessB a a = false := less_irr a
theorem SrtN.nodup {l : List Nod} (h : SrtN l) : (l.map fun m => m.f0).Nodup := by
 refine List.pairwise_map.2 (h.imp fun {a b} hab e => ?_)
 rw [e, less_self] at hab
 cases hab
/-- Whether a stamp is below a node: in so many rounds as there are nodes, and one. -/
theorem undR_is {l : List Nod} (hr : Rooted l) {id : Stp} (hid : outerB id = false) : ∀ (k : Nat) (s : Stp) (m : Nat), exact_ l k s → k < m → (has l s || outerB s) = true → ∃ r, bel l id (k + 1) s = some r ∧ undR l id m s = r
 | 0, s, m, h, hm, _ => by
  have h0 := exact_zero h
  obtain ⟨m, rfl⟩ : ∃ m', m = m' + 1 := ⟨m - 1, by omega⟩
  refine ⟨false, by unfold bel; rw [if_pos h0], ?_⟩
  refine und_no (fun e => by rw [e, hid] at h0; cases h0) ?_
  cases hh : has l s with
  | false => rfl
  | true =>
   obtain ⟨n, hn, rfl⟩ := has_iff.1 hh
   rw [hr.own n hn] at h0; cases h0
 | k + 1, s, m, h, hm, hs => by
  obtain ⟨h0, h1⟩ := exact_succ h
  obtain ⟨m, rfl⟩ : ∃ m', m = m' + 1 := ⟨m - 1, by omega⟩
  have hh : has l s = true := by rw [h0, Bool.or_false] at hs; exact hs
  by_cases he : s = id
  · refine ⟨true, ?_, und_hit he⟩
    unfold bel
    rw [if_neg (by rw [h0]; simp), if_pos (by rw [he]; simp)]
  · obtain ⟨r, hb, hu⟩ := undR_is hr hid k _ m h1 (by omega) (hr.par _ (look_mem hh).1)
    refine ⟨r, ?_, by rw [und_on he hh]; exact hu⟩
    unfold bel
    rw [if_neg (by rw [h0]; simp), if_neg (show ¬ ((s.f0 == id.f0 && s.f1 == id.f1) = true) from fun e => he (eqS_iff.1 e))]
    exact hb
theorem undR_under {l : List Nod} (hr : Rooted l) {id s : Stp} (hid : outerB id = false) (hs : (has l s || outerB s) = true) : undR l id (l.length + 1) s = under l id s := by
 obtain ⟨k, hk, he⟩ := exact_is hr hs
 obtain ⟨r, hb, hu⟩ := undR_is hr hid k s (l.length + 1) he (by omega) hs
 rw [hu, under_of hb]
theorem OrdN.srt {l : List Nod} (h : OrdN l) (hn : (l.map fun n => n.f0).Nodup) : SrtN l := by
 refine List.pairwise_iff_getElem.2 (fun i j hi hj hij => ?_)
 have := h.strict hn hij hj
 rwa [getElem!_pos l i hi, getElem!_pos l j hj] at this
end Go.Proofs.YtlfgdaiegefjiaaDoor.S
/- The document's tree: parts of a row of operations, put behind others. -/
namespace Go.Proofs.YtlfgdaiegefjiaaDoor.S
open Go.RowKit Go.Proofs.YtlfgdaiegefjiaaDoorW.PrintWords Go.Proofs.YtlfgdaiegefjiaaDoorW.PrintLast Go.Proofs.YtlfgdaiegefjiaaDoorW.PrintMore
set_option linter.unusedVariables false
set_option linter.unusedSimpArgs false
abbrev trCells (vF vO : Value) (b : Stp) : Array Value := #[vF, vO, .int .i64 b.f0, .int .i64 b.f1]
theorem three_new (w : World) (o1 o2 o3 : Obj) : (((w.alloc o1).alloc o2).alloc o3).heap[w.heap.size]? = some o1 ∧ (((w.alloc o1).alloc o2).alloc o3).heap[w.heap.size + 1]? = some o2 ∧ (((w.alloc o1).alloc o2).alloc o3).heap[w.heap.size + 1 + 1]? = some o3 ∧ Below w.heap.size w (((w.alloc o1).alloc o2).alloc o3) := by
 have s1 : (w.alloc o1).heap.size = w.heap.size + 1 := by simp
 have s2 : ((w.alloc o1).alloc o2).heap.size = w.heap.size + 1 + 1 := by simp
 have a1 := heap_alloc_new w o1
 have a2 := heap_alloc_new (w.alloc o1) o2
 have a3 := heap_alloc_new ((w.alloc o1).alloc o2) o3
 rw [s1] at a2
 rw [s2] at a3
 have b2 := below_alloc (Below.refl (w.alloc o1).heap.size (w.alloc o1)) o2
 have b3 := below_alloc (Below.refl ((w.alloc o1).alloc o2).heap.size ((w.alloc o1).alloc o2)) o3
 refine ⟨?_, ?_, a3, below_alloc (below_alloc (below_alloc (Below.refl _ _) _) _) _⟩
 · rw [b3.block _ (by omega), b2.block _ (by omega)]; exact a1
 · rw [b3.block _ (by omega)]; exact a2
/-- A part of a row, as it is read. -/
def PartO (w : World) (v : Value) (l : List Opn) : Prop := ∃ A c, v = .slice A l.length c ∧ (l = [] ∨ ∃ ad, A = some ad ∧ ∀ j u, (flat l)[j]? = some u → w.cell? (ad.add j) = some u)
theorem flat_at {l : List Opn} {k : Nat} {p : Opn} (h : l[k]? = some p) (i : Nat) (hi : i < 9) : (flat l)[k * 9 + i]? = (opC p)[i]? := by
 have h1 := flat_drop l k
 obtain ⟨hlt, rfl⟩ := List.getElem?_eq_some_iff.1 h
 have h2 : (flat l)[k * 9 + i]? = ((flat l).drop (k * 9))[i]? := by rw [List.getElem?_drop]
 rw [h2, h1, List.drop_eq_getElem_cons hlt]
 unfold flat
 rw [List.flatMap_cons, List.getElem?_append_left (by simpa [opC] using hi)]
theorem row_cells {w : World} {ad : Addr} {n : Nat} {l : List Opn} (h : Kd.C k25 w (some ad) n l) : ∀ j u, (flat l)[j]? = some u → w.cell? (ad.add j) = some u := by
 intro j u hj
 have hlt : j < l.length * 9 := by
  have := (List.getElem?_eq_some_iff.1 hj).1
  rwa [flat_length] at this
 have hn : l.length = n := h.1
 obtain ⟨ad', e, hc⟩ := h.2.2 (by omega)
 cases e
 have hk : j / 9 < l.length := by omega
 obtain ⟨cs, hcs, hK, hcell⟩ := hc (j / 9) (l[j / 9]) (List.getElem?_eq_getElem hk)
 obtain rfl := k25_open hK
 have h1 := flat_at (List.getElem?_eq_getElem hk) (j % 9) (by omega)
 rw [show j / 9 * 9 + j % 9 = j by omega, hj] at h1
 have := hcell (j % 9) u h1.symm
 rwa [show k25.sz = 9 from rfl, show j / 9 * 9 + j % 9 = j by omega] at this
theorem RowO.whole {w : World} {v : Value} {l : List Opn} (h : RowO w v l) : PartO w v l := by
 obtain ⟨A, c, rfl, hc, hC⟩ := h
 refine ⟨A, c, rfl, ?_⟩
 rcases Nat.eq_zero_or_pos l.length with h0 | hp
 · exact .inl (List.eq_nil_of_length_eq_zero h0)
 · obtain ⟨ad, e, _⟩ := hC.2.2 (by omega)
   subst e
   exact .inr ⟨ad, rfl, row_cells hC⟩
theorem PartO.below {w w1 : World} {v : Value} {l : List Opn} (h : PartO w v l) (hb : Below w.heap.size w w1) : PartO w1 v l := by
 obtain ⟨A, c, e, h⟩ := h
 refine ⟨A, c, e, h.imp id fun ⟨ad, e, hc⟩ => ⟨ad, e, fun j u hj => pw_cell_below hb (hc j u hj)⟩⟩
theorem slice_highA (w : World) (A : Option Addr) (n c i : Nat) (h : i ≤ c) : (Instr.slice 35 (.slice A n c) none (some (.int .i64 (i : Int))) none).run Tryd.prog w = .ok (.slice A i c) w := by
 unfold Instr.slice Instr.sliceBounds
 simp only [Sem.run_bind, run_underlying Tryd.underlying35, Result.andThen, Sem.run_pure, bound_run w i c h, sizeOp]
 cases A with
 | none => by_cases hc : c = 0 <;> simp [hc]
 | some ad => by_cases hc : c = 0 <;> simp [hc, Addr.add_zero']
/-- The first, and all but the first: how they are cut. -/
theorem RowO.cut {w : World} {v : Value} {l : List Opn} (h : RowO w v l) (k : Nat) (hk : k ≤ l.length) :
 (∃ v1, (∀ W : World, (Instr.slice 35 v none (some (.int .i64 (k : Int))) none).run Tryd.prog W = .ok v1 W) ∧ PartO w v1 (l.take k)) ∧
 (∃ v2, (∀ W : World, (Instr.slice 35 v (some (.int .i64 (k : Int))) none none).run Tryd.prog W = .ok v2 W) ∧ PartO w v2 (l.drop k) ∧ RowO w v2 (l.drop k)) := by
 obtain ⟨A, c, rfl, hc, hC⟩ := h
 have hw := RowO.whole ⟨A, c, rfl, hc, hC⟩
 refine ⟨⟨_, fun W => slice_highA W A l.length c k (by omega), A, c, by rw [List.length_take, Nat.min_eq_left hk], ?_⟩, ⟨_, fun W => slice_low W A l.length c k hk, ?_⟩⟩
 · rcases Nat.eq_zero_or_pos l.length with h0 | hp
   · exact .inl (by rw [List.eq_nil_of_length_eq_zero h0]; simp)
   · obtain ⟨ad, e, _⟩ := hC.2.2 (by omega)
     subst e
     refine .inr ⟨ad, rfl, fun j u hj => row_cells hC j u ?_⟩
     rw [← flat_take] at hj
     have hj2 := (List.getElem?_eq_some_iff.1 hj).1
     rw [List.length_take] at hj2
     rwa [List.getElem?_take_of_lt (by omega)] at hj
 · have hr : RowO w (.slice (if c = k then A else A.map (·.add (k * 9))) (l.length - k) (c - k)) (l.drop k) := by
    refine ⟨_, c - k, by rw [List.length_drop], by rw [List.length_drop]; omega, rfl, ?_, fun hp => ?_⟩
    · have := hC.2.1
      rw [List.length_drop]
      omega
    · rw [List.length_drop] at hp
      obtain ⟨ad, e, hcl⟩ := hC.2.2 (by omega)
      subst e
      rw [if_neg (by omega)]
      refine ⟨ad.add (k * 9), rfl, fun j p hj => ?_⟩
      rw [List.getElem?_drop] at hj
      obtain ⟨cs, h1, h2, h3⟩ := hcl (k + j) p hj
      refine ⟨cs, h1, h2, fun i u hu => ?_⟩
      have := h3 i u hu
      rw [Addr.add_add, show k * 9 + (j * k25.sz + i) = (k + j) * k25.sz + i by rw [show k25.sz = 9 from rfl]; omega]
      exact this
   exact ⟨hr.whole, hr⟩
theorem app_none {w : World} {B : Nat} {v : Value} {l : List Opn} (h : w.ownsRow B 25 9 v l.length (flat l)) (c : Nat) (ty : TypeId) : (Builtin.append_ #[35, 35] ty #[v, .slice none 0 c]).run Tryd.prog w = .ok v w := by
 obtain ⟨i0, hi, hz⟩ := Option.map_eq_some_iff.1 infoOp
 simp only [Prod.mk.injEq] at hz
 obtain ⟨hz0, hz1, hz2⟩ := hz
 rcases h.2 with ⟨rfl, h0⟩ | ⟨g, cap, cur, rfl, hB, hg, hle, _⟩
 · simp [Builtin.append_, run_underlying Tryd.underlying35, sizeOf, typeInfo, hi, Builtin.lenOf, Builtin.firstCells, loadCells, loadCellsFrom]
 · simp [Builtin.append_, run_underlying Tryd.underlying35, sizeOf, typeInfo, hi, Builtin.lenOf, Builtin.firstCells, loadCells, loadCellsFrom, storeCells, hle]
theorem appO_run {w : World} {B : Nat} {v vs : Value} {l ns : List Opn} (h : w.ownsRow B 25 9 v l.length (flat l)) (hB : B ≤ w.heap.size) (hs : PartO w vs ns) (hl : l.length + ns.length ≤ 1000001) (ty : TypeId) :
 ∃ v' w', (Builtin.append_ #[35, 35] ty #[v, vs]).run Tryd.prog w = .ok v' w' ∧ w'.ownsRow B 25 9 v' (l ++ ns).length (flat (l ++ ns)) ∧ (∀ g, g < B → w'.heap[g]? = w.heap[g]?) ∧ (∀ {b w0}, Below b w0 w → b ≤ B → Below b w0 w') := by
 obtain ⟨A, c, rfl, hs⟩ := hs
 obtain ⟨i0, hi, hz⟩ := Option.map_eq_some_iff.1 infoOp
 simp only [Prod.mk.injEq] at hz
 obtain ⟨hz0, hz1, hz2⟩ := hz
 have some_ : ∀ ad : Addr, A = some ad → (∀ j u, (flat ns)[j]? = some u → w.cell? (ad.add j) = some u) → ∃ v' w', (Builtin.append_ #[35, 35] ty #[v, .slice A ns.length c]).run Tryd.prog w = .ok v' w' ∧ w'.ownsRow B 25 9 v' (l ++ ns).length (flat (l ++ ns)) ∧ (∀ g, g < B → w'.heap[g]? = w.heap[g]?) ∧ (∀ {b w0}, Below b w0 w → b ≤ B → Below b w0 w') := by
  rintro ad rfl hv
  obtain ⟨v', w', hrun, ho, hg, _, hat⟩ := run_append_own_at (P := Tryd.prog) w B 35 ty 25 i0 _ 9 88 Tryd.underlying35 hi hz0 hz1 hz2 rfl (by decide) v l.length (flat l) h ad ns.length c (flat ns) (flat_length ns) hv (flat_one ns) (by simp only [maxLen]; omega) (by omega) hB
  have hblk : ∀ g, g < B → w'.heap[g]? = w.heap[g]? := fun g hgB => hg.block g (by omega) (fun e => by have := (h.lt g e.symm).1; omega)
  refine ⟨v', w', hrun, ?_, hblk, fun {b w0} hb hbB => hb.trans ⟨hg.os, hg.tape, hg.output, hg.size, fun k hk => hblk k (by omega)⟩⟩
  rw [List.length_append, flat_append]
  exact ho
 rcases hs with rfl | ⟨ad, e, hv⟩
 · cases A with
   | none => exact ⟨v, w, app_none h c ty, by rw [List.append_nil]; exact h, fun _ _ => rfl, fun hb _ => hb⟩
   | some ad => exact some_ ad rfl (fun j u hj => by simp [flat] at hj)
 · exact some_ ad e hv
section
variable {ops : Array Oper} {rest : List Oper} {oo : Oper} {a : Act} {Q : Exit → Act → World → Prop} {w : World}
theorem wl_appO {B : Nat} {v vs : Value} {l ns : List Opn} (s x : Operand) (hop : oo.op = .call { callee := .builtin .append, args := #[s, x], argTypes := #[35, 35] }) (hs : a.eval s = v) (hx : a.eval x = vs)
 (h0 : w.ownsRow B 25 9 v l.length (flat l)) (hB : B ≤ w.heap.size) (hp : PartO w vs ns) (hl : l.length + ns.length ≤ 1000001)
 (h : ∀ v' w', w'.ownsRow B 25 9 v' (l ++ ns).length (flat (l ++ ns)) → (∀ g, g < B → w'.heap[g]? = w.heap[g]?) → (∀ {b w0}, Below b w0 w → b ≤ B → Below b w0 w') → wpList Tryd.prog ops Q rest (a.put oo.dst v') w') (hg : oo.guard = none := by rfl) : wpList Tryd.prog ops Q (oo :: rest) a w := by
 refine wpList_plain hg fun K' hK' => ?_
 obtain ⟨v', w', hrun, h1, h2, h3⟩ := appO_run h0 hB hp hl oo.type
 unfold Oper.wp execOp
 simp only [hop, resolve, invoke, builtin, Sem.run_bind, Sem.run_pure, Result.andThen_ok, List.map_toArray, List.map_cons, List.map_nil, hs, hx, hrun]
 exact hK' _ _ (h v' w' h1 h2 h3)
end
theorem one_part (W : World) (o : Opn) : PartO (W.alloc (.cells (opCells o) 25)) (.slice (some ⟨W.heap.size, 0, none⟩) 1 1) [o] := by
 refine ⟨_, 1, rfl, .inr ⟨_, rfl, fun j u hj => ?_⟩⟩
 have h := blk_cell (heap_alloc_new W (.cells (opCells o) 25)) j
 rw [show (⟨W.heap.size, 0, none⟩ : Addr).add j = ⟨W.heap.size, j, none⟩ from add_zero' _ _, h, ← hj]
 simp [flat, opC]
theorem own_row {w : World} {B : Nat} {v : Value} {l : List Opn} (h : w.ownsRow B 25 9 v l.length (flat l)) : RowO w v l := by
 obtain ⟨A, c, e, hc, hC⟩ := Kd.R_reads (OpsAt.of_row h)
 exact ⟨A, c, e, hc, hC⟩
end Go.Proofs.YtlfgdaiegefjiaaDoor.S
/- The document's tree: one operation more. -/
namespace Go.Proofs.YtlfgdaiegefjiaaDoor.S
open Go.RowKit Go.Proofs.YtlfgdaiegefjiaaDoorW.PrintWords Go.Proofs.YtlfgdaiegefjiaaDoorW.PrintLast Go.Proofs.YtlfgdaiegefjiaaDoorW.PrintMore
set_option linter.unusedVariables false
set_option linter.unusedSimpArgs false
attribute [local go_sem high] eqA23
theorem ap_hit {l : List Opn} (hs : Sorted l) {x : Int} {s : Stp} (h0 : 0 ≤ x) (h1 : x < l.length) (h : (rd_T25 l x).f1 = s) : isIn l s = true := by
 have hr := ranks l s hs
 have hx := hr.2 x h0 h1
 rw [h, less_irr] at hx
 have hle : (rank l s : Int) ≤ x := by have := of_decide_eq_false hx.symm; omega
 have hlt : rank l s < l.length := by omega
 have hq := hr.2 (rank l s : Int) (by omega) (by omega)
 rw [decide_eq_false (by omega)] at hq
 unfold isIn found
 rw [decide_eq_true hlt, Bool.true_and]
 by_cases he : (rank l s : Int) = x
 · rw [he, h]; exact eqS_self s
 · exfalso
   obtain ⟨i, hi, hii, e1⟩ := rd_is l (rank l s : Int) (by omega) (by omega)
   obtain ⟨k, hk, hkk, e2⟩ := rd_is l x h0 h1
   have hp := List.pairwise_iff_getElem.1 hs i k hi hk (by omega)
   rw [e2] at h
   rw [e1] at hq
   rw [h, hq] at hp
   cases hp
theorem ap_none {l : List Opn} {s : Stp} (h : ∀ i : Nat, i < l.length → (rd_T25 l (i : Int)).f1 ≠ s) : isIn l s = false := by
 unfold isIn found
 by_cases hr : rank l s < l.length
 · rw [eqS_false (h _ hr), Bool.and_false]
 · rw [decide_eq_false hr, Bool.false_and]
theorem ap_less {l : List Opn} (hs : Sorted l) {x : Int} {s : Stp} (h0 : 0 ≤ x) (h1 : x < l.length) (h : (rd_T25 l x).f1 ≠ s) : lessB s (rd_T25 l x).f1 = decide ((rank l s : Int) ≤ x) := by
 have hx := (ranks l s hs).2 x h0 h1
 by_cases hr : x < (rank l s : Int)
 · rw [decide_eq_true hr] at hx
   rw [decide_eq_false (by omega)]
   cases hq : lessB s (rd_T25 l x).f1 with
   | false => rfl
   | true => exact (less_asym _ _ hx hq).elim
 · rw [decide_eq_false hr] at hx
   rw [decide_eq_true (by omega)]
   rcases less_or _ _ hx with e | e
   · exact absurd (eqS_iff.1 e) h
   · exact e
theorem ap_creates (l : List Opn) {x : Int} {j : Nat} (h0 : 0 ≤ x) (h1 : x < l.length) (hj : (j : Int) = x + 1) : creates (l.drop x.toNat) = (if (rd_T25 l x).f0 = 1 then 1 else 0) + creates (l.drop j) := by
 obtain ⟨i, hi, hii, e⟩ := rd_is l x h0 h1
 obtain rfl : j = i + 1 := by omega
 rw [e, show x.toNat = i by omega, List.drop_eq_getElem_cons hi]
 unfold creates
 rw [List.filter_cons]
 by_cases h : l[i].f0 = 1
 · rw [if_pos (by simp [h]), if_pos h, List.length_cons]; omega
 · rw [if_neg (by simp [h]), if_neg h]; omega
/-- What the document's Apply makes of operations, and its answer. -/
def fullA (n : Nat) (ops : List Opn) (o : Opn) : Bool := decide (512 ≤ ops.length) || (o.f0 == 1 && decide (512 ≤ n + creates ops))
def putA (n : Nat) (ops : List Opn) (b : Stp) (o : Opn) (m : Bool) : List Opn × Int :=
 if (m && lessB b o.f1) = false then (ops, 1) else if isIn ops o.f1 = true then (ops, 0) else if fullA n ops o = true then (ops, 2) else (insO ops o, 0)
set_option maxHeartbeats 16000000 in
set_option maxRecDepth 100000 in
theorem rApply_calls (w : World) (vF vO : Value) (fx : List Nod) (ops : List Opn) (b : Stp) (o : Opn) (k : Nat) (m : Bool) (hF : RowN w vF fx) (hO : RowO w vO ops) (hm : Go.Proofs.YtlfgdaiegefjiaaDoor.S.samphireref11_May.f k o.f0 o.f1.f0 o.f1.f1 o.f2.f0 o.f2.f1 o.f3.f0 o.f3.f1 o.f4 o.f5 = some m) (hs : Sorted ops) (hol : ops.length ≤ 100000) (hfl : fx.length ≤ 100000) :
 Calls Tryd.prog 20 #[.agg (trCells vF vO b), opVal o] w fun e w' => ∃ v', e = .returned (.tuple #[.agg (trCells vF v' b), .int .i64 (putA fx.length ops b o m).2]) ∧ RowO w' v' (putA fx.length ops b o m).1 ∧ ((v' = vO ∧ (putA fx.length ops b o m).1 = ops) ∨ (Typed w' 25 v' ∧ Newer w.heap.size v')) ∧ Below w.heap.size w w' := by
 have hu := Tryd.underlying45
 have hu1 := Tryd.underlying23
 have hu2 := Tryd.underlying25
 obtain ⟨AF, cF, rfl, hcF, hCF⟩ := hF
 obtain ⟨AO, cO, rfl, hcO, hCO⟩ := hO
 have HF := Aside0.mk (show RowN w (.slice AF fx.length cF) fx from ⟨AF, cF, rfl, hcF, hCF⟩)
 have HO := Aside0.mk (show RowO w (.slice AO ops.length cO) ops from ⟨AO, cO, rfl, hcO, hCO⟩)
 obtain ⟨bt, bo, bn, hb⟩ := three_new w (.cells (trCells (.slice AF fx.length cF) (.slice AO ops.length cO) b) 45) (.cells (opCells o) 25) (.cells #[.slice none 0 0, .slice none 0 0, .int .i64 0, .int .i64 0] 45)
 have BT := Aside0.mk bt
 have BO := Aside0.mk bo
 have BN := Aside0.mk bn
 have HB := Aside0.mk hb
 have HM := Aside0.mk hm
 have HS := Aside0.mk hs
 have HOL := Aside0.mk hol
 have HFL := Aside0.mk hfl
 have hg : w.heap.size ≤ w.heap.size + 1 + 1 := by omega
 clear bt bo bn hb hcF hCF hcO hCO hm hs hol hfl
 go_enter Tryd.func20, Tryd.ntmps20
 obtain ⟨y0, y1, y2, y3, y4, y5, y6, y7, y8, yf⟩ := Z9 BO.out
 obtain ⟨z0, z1, z2, z3, zf⟩ := Z4 BT.out
 cases m with
 | false =>
  have HP := Aside0.mk (show putA fx.length ops b o false = (ops, 1) from rfl)
  go_upto_region 2 with (go_at_call 26; refine (Go.Proofs.YtlfgdaiegefjiaaDoor.S.samphireref11_May.calls k _ _ _ _ _ _ _ _ _ _ _ HM.out).mono ?_; rintro e w2 ⟨rfl, hb2⟩; replace BT := Aside0.mk (blk_below BT.out hb2); replace BO := Aside0.mk (blk_below BO.out hb2); replace BN := Aside0.mk (blk_below BN.out hb2); replace HB := Aside0.mk (below_then HB.out HB.out.size hb2); clear hb2 y0 y1 y2 y3 y4 y5 y6 y7 y8 yf z0 z1 z2 z3 zf; obtain ⟨y0, y1, y2, y3, y4, y5, y6, y7, y8, yf⟩ := Z9 BO.out; obtain ⟨z0, z1, z2, z3, zf⟩ := Z4 BT.out)
  obtain ⟨n0, n1, n2, n3, nf0, nf1, nf2, nf3⟩ := Z4 BN.out
  go_wp2
  try simp only [Exit.inBlock, Exit.then]
  refine bodyPost_ret (results_ct rfl _ _ (w.heap.size + 1 + 1) 45 #[.slice AF fx.length cF, (.slice AO ops.length cO), .int .i64 b.f0, .int .i64 b.f1] (0, 0) _ rfl (blk_put (blk_put (blk_put (blk_put (BN.out) 0 _ rfl) 1 _ rfl) 2 _ rfl) 3 _ rfl) Tryd.underlying45 rfl (by kernel_rfl)) rfl ?_
  exact ⟨(.slice AO ops.length cO), by rw [HP.out]; rfl, by rw [HP.out]; exact HO.out.below (below_set (below_set (below_set (below_set (HB.out) hg) hg) hg) hg), by rw [HP.out]; exact .inl ⟨rfl, rfl⟩, below_set (below_set (below_set (below_set (HB.out) hg) hg) hg) hg⟩
 | true =>
  have HLS := Aside0.mk (ref10_less b o.f1)
  generalize hle : lessB b o.f1 = le at HLS
  cases le with
  | false =>
   have HP := Aside0.mk (show putA fx.length ops b o true = (ops, 1) by unfold putA; rw [hle]; rfl)
   clear hle
   go_upto_region 2 with (first | (go_at_call 26; refine (Go.Proofs.YtlfgdaiegefjiaaDoor.S.samphireref11_May.calls k _ _ _ _ _ _ _ _ _ _ _ HM.out).mono ?_; rintro e w2 ⟨rfl, hb2⟩; replace BT := Aside0.mk (blk_below BT.out hb2); replace BO := Aside0.mk (blk_below BO.out hb2); replace BN := Aside0.mk (blk_below BN.out hb2); replace HB := Aside0.mk (below_then HB.out HB.out.size hb2); clear hb2 y0 y1 y2 y3 y4 y5 y6 y7 y8 yf z0 z1 z2 z3 zf; obtain ⟨y0, y1, y2, y3, y4, y5, y6, y7, y8, yf⟩ := Z9 BO.out; obtain ⟨z0, z1, z2, z3, zf⟩ := Z4 BT.out) | (go_at_call 56; refine (samphireref10_Less.calls _ _ _ _ _ _ HLS.out).mono ?_; rintro e w3 ⟨rfl, hb2⟩; replace BT := Aside0.mk (blk_below BT.out hb2); replace BO := Aside0.mk (blk_below BO.out hb2); replace BN := Aside0.mk (blk_below BN.out hb2); replace HB := Aside0.mk (below_then HB.out HB.out.size hb2); clear hb2))
   clear y0 y1 y2 y3 y4 y5 y6 y7 y8 yf z0 z1 z2 z3 zf
   obtain ⟨y0, y1, y2, y3, y4, y5, y6, y7, y8, yf⟩ := Z9 BO.out
   obtain ⟨z0, z1, z2, z3, zf⟩ := Z4 BT.out
   obtain ⟨n0, n1, n2, n3, nf0, nf1, nf2, nf3⟩ := Z4 BN.out
   go_wp2
   try simp only [Exit.inBlock, Exit.then]
   refine bodyPost_ret (results_ct rfl _ _ (w.heap.size + 1 + 1) 45 #[.slice AF fx.length cF, (.slice AO ops.length cO), .int .i64 b.f0, .int .i64 b.f1] (0, 0) _ rfl (blk_put (blk_put (blk_put (blk_put (BN.out) 0 _ rfl) 1 _ rfl) 2 _ rfl) 3 _ rfl) Tryd.underlying45 rfl (by kernel_rfl)) rfl ?_
   exact ⟨(.slice AO ops.length cO), by rw [HP.out]; rfl, by rw [HP.out]; exact HO.out.below (below_set (below_set (below_set (below_set (HB.out) hg) hg) hg) hg), by rw [HP.out]; exact .inl ⟨rfl, rfl⟩, below_set (below_set (below_set (below_set (HB.out) hg) hg) hg) hg⟩
  | true =>
   have HLE := Aside0.mk hle
   clear hle
   have hol2 := HOL.out
   have hw0 : wrap64 ((ops.length : Int) - 1) = (ops.length : Int) - 1 := by unfold wrap64; omega
   go_upto_region 3 with (first | (go_at_call 26; refine (Go.Proofs.YtlfgdaiegefjiaaDoor.S.samphireref11_May.calls k _ _ _ _ _ _ _ _ _ _ _ HM.out).mono ?_; rintro e w2 ⟨rfl, hb2⟩; replace BT := Aside0.mk (blk_below BT.out hb2); replace BO := Aside0.mk (blk_below BO.out hb2); replace BN := Aside0.mk (blk_below BN.out hb2); replace HB := Aside0.mk (below_then HB.out HB.out.size hb2); clear hb2 y0 y1 y2 y3 y4 y5 y6 y7 y8 yf z0 z1 z2 z3 zf; obtain ⟨y0, y1, y2, y3, y4, y5, y6, y7, y8, yf⟩ := Z9 BO.out; obtain ⟨z0, z1, z2, z3, zf⟩ := Z4 BT.out) | (go_at_call 56; refine (samphireref10_Less.calls _ _ _ _ _ _ HLS.out).mono ?_; rintro e w3 ⟨rfl, hb2⟩; replace BT := Aside0.mk (blk_below BT.out hb2); replace BO := Aside0.mk (blk_below BO.out hb2); replace BN := Aside0.mk (blk_below BN.out hb2); replace HB := Aside0.mk (below_then HB.out HB.out.size hb2); clear hb2))
   clear y0 y1 y2 y3 y4 y5 y6 y7 y8 yf z0 z1 z2 z3 zf
   obtain ⟨y0, y1, y2, y3, y4, y5, y6, y7, y8, yf⟩ := Z9 BO.out
   obtain ⟨z0, z1, z2, z3, zf⟩ := Z4 BT.out
   go_wp2_with fail
   try go_frame
   obtain ⟨R, hR⟩ : ∃ R, R = rank ops o.f1 := ⟨_, rfl⟩
   have HR := Aside0.mk hR
   have HRL := Aside0.mk (show R ≤ ops.length by rw [hR]; exact rank_le _ _)
   clear hR hol2
   go_loopg [6, 7, 8] (ops.length + 1) (fun kq pc pk p wr => ∃ (x : Int) (j c : Nat), Aside0 ((j : Int) = x + 1 ∧ kq = j + 1 ∧ j ≤ ops.length ∧ c = fx.length + creates (ops.drop j)) ∧ p = .int .i64 x ∧ pk = .int .i64 ((max j R : Nat) : Int) ∧ pc = .int .i64 (c : Int) ∧ Aside0 (∀ i : Nat, j ≤ i → i < ops.length → (rd_T25 ops (i : Int)).f1 ≠ o.f1) ∧ Aside0 (wr.heap[w.heap.size]? = some (.cells (trCells (.slice AF fx.length cF) (.slice AO ops.length cO) b) 45 (0, 0))) ∧ Aside0 (wr.heap[w.heap.size + 1]? = some (.cells (opCells o) 25 (0, 0))) ∧ Aside0 (wr.heap[w.heap.size + 1 + 1]? = some (.cells #[.slice none 0 0, .slice none 0 0, .int .i64 0, .int .i64 0] 45 (0, 0))) ∧ Aside0 (Below w.heap.size w wr))
   case atStart => exact ⟨(ops.length : Int) - 1, ops.length, fx.length, ⟨by omega, rfl, Nat.le_refl _, by rw [List.drop_length]; rfl⟩, (by first | rfl | rw [hw0]), (by rw [Nat.max_eq_left HRL.out]), rfl, ⟨fun i h1 h2 => by omega⟩, BT, BO, BN, HB⟩
   case round =>
    clear y0 y1 y2 y3 y4 y5 y6 y7 y8 yf z0 z1 z2 z3 zf BT BO BN HB
    obtain ⟨x, j, c, HK, rfl, rfl, rfl, HJ, BT, BO, BN, HB⟩ := hrel
    obtain ⟨k1, rfl⟩ : ∃ k1, gk = k1 + 1 := ⟨j, HK.out.2.1⟩
    obtain ⟨y0, y1, y2, y3, y4, y5, y6, y7, y8, yf⟩ := Z9 BO.out
    obtain ⟨z0, z1, z2, z3, zf⟩ := Z4 BT.out
    by_cases hx : 0 ≤ x
    · have b1 : decide (0 ≤ x) = true := decide_eq_true hx
      have b2 : decide (x ≥ 0) = true := decide_eq_true hx
      have hxl : x < (ops.length : Int) := by have := HK.out; omega
      obtain ⟨ad, e, x0, x1, x2, x3, x4, x5, x6, x7, x8⟩ := at_T25 (HO.out.below HB.out).at.2.2 x hx hxl
      cases e
      have p1 := eq_true hx
      have q1 := eq_true hxl
      have H0 := Aside0.mk hx
      have H1 := Aside0.mk hxl
      have hol2 := HOL.out
      have hw1 : wrap64 (x - 1) = x - 1 := by unfold wrap64; omega
      clear hx hxl hol2
      go_upto_region 8 with fail
      go_still_tail 8, (by kernel_rfl)
      by_cases he : (rd_T25 ops x).f1 = o.f1
      · have HP := Aside0.mk (show putA fx.length ops b o true = (ops, 0) by unfold putA; rw [HLE.out, if_neg (by decide), if_pos (ap_hit HS.out H0.out H1.out he)])
        have e0 : (rd_T25 ops x).f1.f0 = o.f1.f0 := by rw [he]
        have e1 : (rd_T25 ops x).f1.f1 = o.f1.f1 := by rw [he]
        clear he
        go_upto_region 9 with fail
        clear e0 e1
        replace BT := Aside0.mk (blk_below BT.out (Below.refl _ _).drew)
        replace BO := Aside0.mk (blk_below BO.out (Below.refl _ _).drew)
        replace BN := Aside0.mk (blk_below BN.out (Below.refl _ _).drew)
        replace HB := Aside0.mk HB.out.drew
        clear y0 y1 y2 y3 y4 y5 y6 y7 y8 yf z0 z1 z2 z3 zf x0 x1 x2 x3 x4 x5 x6 x7 x8
        generalize wr.drew = wd1 at BT BO BN HB ⊢
        obtain ⟨y0, y1, y2, y3, y4, y5, y6, y7, y8, yf⟩ := Z9 BO.out
        obtain ⟨z0, z1, z2, z3, zf⟩ := Z4 BT.out
        obtain ⟨ad1, e, x0, x1, x2, x3, x4, x5, x6, x7, x8⟩ := at_T25 (HO.out.below HB.out).at.2.2 x H0.out H1.out
        cases e
        obtain ⟨n0, n1, n2, n3, nf0, nf1, nf2, nf3⟩ := Z4 BN.out
        go_wp2
        try simp only [Exit.inBlock, Exit.then]
        refine bodyPost_ret (results_ct rfl _ _ (w.heap.size + 1 + 1) 45 #[.slice AF fx.length cF, (.slice (some ad) ops.length cO), .int .i64 b.f0, .int .i64 b.f1] (0, 0) _ rfl (blk_put (blk_put (blk_put (blk_put (BN.out) 0 _ rfl) 1 _ rfl) 2 _ rfl) 3 _ rfl) Tryd.underlying45 rfl (by kernel_rfl)) rfl ?_
        exact ⟨(.slice (some ad) ops.length cO), by rw [HP.out]; rfl, by rw [HP.out]; exact HO.out.below (below_set (below_set (below_set (below_set (HB.out) hg) hg) hg) hg), by rw [HP.out]; exact .inl ⟨rfl, rfl⟩, below_set (below_set (below_set (below_set (HB.out) hg) hg) hg) hg⟩
      · have HN := Aside0.mk he
        have HC := Aside0.mk (ap_creates ops H0.out H1.out HK.out.1)
        have hal := ap_less HS.out H0.out H1.out he
        rw [← HR.out] at hal
        have HLS2 := Aside0.mk (ref10_less o.f1 (rd_T25 ops x).f1)
        obtain ⟨e0, e1⟩ := stp_ne he
        clear he
        go_upto_region 10 with fail
        clear e0 e1
        replace BT := Aside0.mk (blk_below BT.out (Below.refl _ _).drew)
        replace BO := Aside0.mk (blk_below BO.out (Below.refl _ _).drew)
        replace BN := Aside0.mk (blk_below BN.out (Below.refl _ _).drew)
        replace HB := Aside0.mk HB.out.drew
        clear y0 y1 y2 y3 y4 y5 y6 y7 y8 yf z0 z1 z2 z3 zf x0 x1 x2 x3 x4 x5 x6 x7 x8
        generalize wr.drew = wd2 at BT BO BN HB ⊢
        obtain ⟨y0, y1, y2, y3, y4, y5, y6, y7, y8, yf⟩ := Z9 BO.out
        obtain ⟨z0, z1, z2, z3, zf⟩ := Z4 BT.out
        obtain ⟨ad2, e, x0, x1, x2, x3, x4, x5, x6, x7, x8⟩ := at_T25 (HO.out.below HB.out).at.2.2 x H0.out H1.out
        cases e
        go_still_tail 8, (by kernel_rfl)
        replace BT := Aside0.mk (blk_below BT.out (Below.refl _ _).drew)
        replace BO := Aside0.mk (blk_below BO.out (Below.refl _ _).drew)
        replace BN := Aside0.mk (blk_below BN.out (Below.refl _ _).drew)
        replace HB := Aside0.mk HB.out.drew
        by_cases hr : (R : Int) ≤ x
        · rw [hal, decide_eq_true hr] at HLS2
          by_cases hk : (rd_T25 ops x).f0 = 1
          · have m1 : ((rd_T25 ops x).f0 == 1) = true := beq_iff_eq.2 hk
            have m2 : decide ((rd_T25 ops x).f0 = 1) = true := decide_eq_true hk
            have m3 : ((rd_T25 ops x).f0 = 1) = True := eq_true hk
            have hw2 : wrap64 ((c : Int) + 1) = (c : Int) + 1 := by
             have h1 := HK.out.2.2.2
             have h2 := HFL.out
             have h3 := HOL.out
             have h4 : creates (ops.drop j) ≤ ops.length := by
              unfold creates
              exact Nat.le_trans (List.length_filter_le _ _) (by rw [List.length_drop]; omega)
             unfold wrap64; omega
            have hkk := Aside0.mk hk
            clear hk
            go_upto_region 12 with (go_at_call 56; refine (samphireref10_Less.calls _ _ _ _ _ _ HLS2.out).mono ?_; rintro e w3 ⟨rfl, hb2⟩; replace BT := Aside0.mk (blk_below BT.out hb2); replace BO := Aside0.mk (blk_below BO.out hb2); replace BN := Aside0.mk (blk_below BN.out hb2); replace HB := Aside0.mk (below_then HB.out HB.out.size hb2); clear hb2)
            clear hal
            clear y0 y1 y2 y3 y4 y5 y6 y7 y8 yf z0 z1 z2 z3 zf
            obtain ⟨y0, y1, y2, y3, y4, y5, y6, y7, y8, yf⟩ := Z9 BO.out
            obtain ⟨z0, z1, z2, z3, zf⟩ := Z4 BT.out
            clear x0 x1 x2 x3 x4 x5 x6 x7 x8
            obtain ⟨ad3, e, x0, x1, x2, x3, x4, x5, x6, x7, x8⟩ := at_T25 (HO.out.below HB.out).at.2.2 x H0.out H1.out
            cases e
            go_wp2
            go_roundg k1
            case measure => exact Nat.lt_succ_self _
            case rel => exact ⟨x - 1, x.toNat, c + 1, ⟨by have := HK.out; have := H0.out; omega, by have := HK.out; have := H0.out; omega, by have := HK.out; have := H0.out; omega, by rw [HC.out]; have := HK.out; rw [if_pos hkk.out]; omega⟩, (by first | rfl | rw [hw1]), (by first | exact congrArg (Value.int .i64) (by have := HK.out; have := H0.out; omega)), (by first | rfl | exact congrArg (Value.int .i64) (by omega) | (rw [hw2]; exact congrArg (Value.int .i64) (by omega))), ⟨fun i h1 h2 => by
             by_cases hi : (i : Int) = x
             · rw [hi]; exact HN.out
             · exact HJ.out i (by have := HK.out; have := H0.out; omega) h2⟩, BT, BO, BN, HB⟩
          · have m1 : ((rd_T25 ops x).f0 == 1) = false := beq_eq_false_iff_ne.2 hk
            have m2 : decide ((rd_T25 ops x).f0 = 1) = false := decide_eq_false hk
            have m3 : ((rd_T25 ops x).f0 = 1) = False := eq_false hk
            have hw2 := True.intro
            have hkk := Aside0.mk hk
            clear hk
            go_upto_region 12 with (go_at_call 56; refine (samphireref10_Less.calls _ _ _ _ _ _ HLS2.out).mono ?_; rintro e w3 ⟨rfl, hb2⟩; replace BT := Aside0.mk (blk_below BT.out hb2); replace BO := Aside0.mk (blk_below BO.out hb2); replace BN := Aside0.mk (blk_below BN.out hb2); replace HB := Aside0.mk (below_then HB.out HB.out.size hb2); clear hb2)
            clear hal
            clear y0 y1 y2 y3 y4 y5 y6 y7 y8 yf z0 z1 z2 z3 zf
            obtain ⟨y0, y1, y2, y3, y4, y5, y6, y7, y8, yf⟩ := Z9 BO.out
            obtain ⟨z0, z1, z2, z3, zf⟩ := Z4 BT.out
            clear x0 x1 x2 x3 x4 x5 x6 x7 x8
            obtain ⟨ad3, e, x0, x1, x2, x3, x4, x5, x6, x7, x8⟩ := at_T25 (HO.out.below HB.out).at.2.2 x H0.out H1.out
            cases e
            go_wp2
            go_roundg k1
            case measure => exact Nat.lt_succ_self _
            case rel => exact ⟨x - 1, x.toNat, c, ⟨by have := HK.out; have := H0.out; omega, by have := HK.out; have := H0.out; omega, by have := HK.out; have := H0.out; omega, by rw [HC.out]; have := HK.out; rw [if_neg hkk.out]; omega⟩, (by first | rfl | rw [hw1]), (by first | exact congrArg (Value.int .i64) (by have := HK.out; have := H0.out; omega)), (by first | rfl | exact congrArg (Value.int .i64) (by omega) | (rw [hw2]; exact congrArg (Value.int .i64) (by omega))), ⟨fun i h1 h2 => by
             by_cases hi : (i : Int) = x
             · rw [hi]; exact HN.out
             · exact HJ.out i (by have := HK.out; have := H0.out; omega) h2⟩, BT, BO, BN, HB⟩
        · rw [hal, decide_eq_false hr] at HLS2
          by_cases hk : (rd_T25 ops x).f0 = 1
          · have m1 : ((rd_T25 ops x).f0 == 1) = true := beq_iff_eq.2 hk
            have m2 : decide ((rd_T25 ops x).f0 = 1) = true := decide_eq_true hk
            have m3 : ((rd_T25 ops x).f0 = 1) = True := eq_true hk
            have hw2 : wrap64 ((c : Int) + 1) = (c : Int) + 1 := by
             have h1 := HK.out.2.2.2
             have h2 := HFL.out
             have h3 := HOL.out
             have h4 : creates (ops.drop j) ≤ ops.length := by
              unfold creates
              exact Nat.le_trans (List.length_filter_le _ _) (by rw [List.length_drop]; omega)
             unfold wrap64; omega
            have hkk := Aside0.mk hk
            clear hk
            go_upto_region 12 with (go_at_call 56; refine (samphireref10_Less.calls _ _ _ _ _ _ HLS2.out).mono ?_; rintro e w3 ⟨rfl, hb2⟩; replace BT := Aside0.mk (blk_below BT.out hb2); replace BO := Aside0.mk (blk_below BO.out hb2); replace BN := Aside0.mk (blk_below BN.out hb2); replace HB := Aside0.mk (below_then HB.out HB.out.size hb2); clear hb2)
            clear hal
            clear y0 y1 y2 y3 y4 y5 y6 y7 y8 yf z0 z1 z2 z3 zf
            obtain ⟨y0, y1, y2, y3, y4, y5, y6, y7, y8, yf⟩ := Z9 BO.out
            obtain ⟨z0, z1, z2, z3, zf⟩ := Z4 BT.out
            clear x0 x1 x2 x3 x4 x5 x6 x7 x8
            obtain ⟨ad3, e, x0, x1, x2, x3, x4, x5, x6, x7, x8⟩ := at_T25 (HO.out.below HB.out).at.2.2 x H0.out H1.out
            cases e
            go_wp2
            go_roundg k1
            case measure => exact Nat.lt_succ_self _
            case rel => exact ⟨x - 1, x.toNat, c + 1, ⟨by have := HK.out; have := H0.out; omega, by have := HK.out; have := H0.out; omega, by have := HK.out; have := H0.out; omega, by rw [HC.out]; have := HK.out; rw [if_pos hkk.out]; omega⟩, (by first | rfl | rw [hw1]), (by first | exact congrArg (Value.int .i64) (by have := HK.out; have := H0.out; omega)), (by first | rfl | exact congrArg (Value.int .i64) (by omega) | (rw [hw2]; exact congrArg (Value.int .i64) (by omega))), ⟨fun i h1 h2 => by
             by_cases hi : (i : Int) = x
             · rw [hi]; exact HN.out
             · exact HJ.out i (by have := HK.out; have := H0.out; omega) h2⟩, BT, BO, BN, HB⟩
          · have m1 : ((rd_T25 ops x).f0 == 1) = false := beq_eq_false_iff_ne.2 hk
            have m2 : decide ((rd_T25 ops x).f0 = 1) = false := decide_eq_false hk
            have m3 : ((rd_T25 ops x).f0 = 1) = False := eq_false hk
            have hw2 := True.intro
            have hkk := Aside0.mk hk
            clear hk
            go_upto_region 12 with (go_at_call 56; refine (samphireref10_Less.calls _ _ _ _ _ _ HLS2.out).mono ?_; rintro e w3 ⟨rfl, hb2⟩; replace BT := Aside0.mk (blk_below BT.out hb2); replace BO := Aside0.mk (blk_below BO.out hb2); replace BN := Aside0.mk (blk_below BN.out hb2); replace HB := Aside0.mk (below_then HB.out HB.out.size hb2); clear hb2)
            clear hal
            clear y0 y1 y2 y3 y4 y5 y6 y7 y8 yf z0 z1 z2 z3 zf
            obtain ⟨y0, y1, y2, y3, y4, y5, y6, y7, y8, yf⟩ := Z9 BO.out
            obtain ⟨z0, z1, z2, z3, zf⟩ := Z4 BT.out
            clear x0 x1 x2 x3 x4 x5 x6 x7 x8
            obtain ⟨ad3, e, x0, x1, x2, x3, x4, x5, x6, x7, x8⟩ := at_T25 (HO.out.below HB.out).at.2.2 x H0.out H1.out
            cases e
            go_wp2
            go_roundg k1
            case measure => exact Nat.lt_succ_self _
            case rel => exact ⟨x - 1, x.toNat, c, ⟨by have := HK.out; have := H0.out; omega, by have := HK.out; have := H0.out; omega, by have := HK.out; have := H0.out; omega, by rw [HC.out]; have := HK.out; rw [if_neg hkk.out]; omega⟩, (by first | rfl | rw [hw1]), (by first | exact congrArg (Value.int .i64) (by have := HK.out; have := H0.out; omega)), (by first | rfl | exact congrArg (Value.int .i64) (by omega) | (rw [hw2]; exact congrArg (Value.int .i64) (by omega))), ⟨fun i h1 h2 => by
             by_cases hi : (i : Int) = x
             · rw [hi]; exact HN.out
             · exact HJ.out i (by have := HK.out; have := H0.out; omega) h2⟩, BT, BO, BN, HB⟩
    · have hx2 : x = -1 := by have := HK.out; omega
      subst hx2
      obtain rfl : j = 0 := by have := HK.out; omega
      obtain rfl : c = fx.length + creates ops := by have := HK.out.2.2.2; rwa [List.drop_zero] at this
      rw [Nat.zero_max]
      clear hx
      have HI := Aside0.mk (ap_none (fun i h => HJ.out i (Nat.zero_le _) h))
      by_cases hf1 : 512 ≤ ops.length
      · have HP := Aside0.mk (show putA fx.length ops b o true = (ops, 2) by unfold putA; rw [HLE.out, if_neg (by decide), if_neg (by rw [HI.out]; decide), if_pos (by unfold fullA; rw [decide_eq_true hf1]; rfl)])
        have m1 : decide ((512 : Int) ≤ (ops.length : Int)) = true := decide_eq_true (by omega)
        have m2 : (512 ≤ ops.length) = True := eq_true hf1
        have m3 : decide ((ops.length : Int) ≥ 512) = true := decide_eq_true (by omega)
        clear hf1
        go_upto_region 15 with fail
        obtain ⟨n0, n1, n2, n3, nf0, nf1, nf2, nf3⟩ := Z4 BN.out
        go_wp2
        try simp only [Exit.inBlock, Exit.then]
        refine bodyPost_ret (results_ct rfl _ _ (w.heap.size + 1 + 1) 45 #[.slice AF fx.length cF, (.slice AO ops.length cO), .int .i64 b.f0, .int .i64 b.f1] (0, 0) _ rfl (blk_put (blk_put (blk_put (blk_put (BN.out) 0 _ rfl) 1 _ rfl) 2 _ rfl) 3 _ rfl) Tryd.underlying45 rfl (by kernel_rfl)) rfl ?_
        exact ⟨(.slice AO ops.length cO), by rw [HP.out]; rfl, by rw [HP.out]; exact HO.out.below (below_set (below_set (below_set (below_set (HB.out) hg) hg) hg) hg), by rw [HP.out]; exact .inl ⟨rfl, rfl⟩, below_set (below_set (below_set (below_set (HB.out) hg) hg) hg) hg⟩
      · have m1 : decide ((512 : Int) ≤ (ops.length : Int)) = false := decide_eq_false (by omega)
        have m2 : (512 ≤ ops.length) = False := eq_false hf1
        have m3 : decide ((ops.length : Int) ≥ 512) = false := decide_eq_false (by omega)
        have HF1 := Aside0.mk hf1
        clear hf1
        by_cases hk : o.f0 = 1
        · have m4 : (o.f0 == 1) = true := beq_iff_eq.2 hk
          have m5 : (o.f0 = 1) = True := eq_true hk
          have m6 : decide (o.f0 = 1) = true := decide_eq_true hk
          have HK1 := Aside0.mk hk
          clear hk
          by_cases hc : 512 ≤ fx.length + creates ops
          · have HP := Aside0.mk (show putA fx.length ops b o true = (ops, 2) by unfold putA; rw [HLE.out, if_neg (by decide), if_neg (by rw [HI.out]; decide), if_pos (by unfold fullA; rw [decide_eq_true hc, m4]; simp)])
            have m7 : decide ((512 : Int) ≤ ((fx.length + creates ops : Nat) : Int)) = true := decide_eq_true (by omega)
            have m8 : (512 ≤ fx.length + creates ops) = True := eq_true hc
            have m9 : decide (((fx.length + creates ops : Nat) : Int) ≥ 512) = true := decide_eq_true (by omega)
            generalize fx.length + creates ops = c at m7 m8 m9 ⊢
            clear hc
            go_upto_region 15 with fail
            obtain ⟨n0, n1, n2, n3, nf0, nf1, nf2, nf3⟩ := Z4 BN.out
            go_wp2
            try simp only [Exit.inBlock, Exit.then]
            refine bodyPost_ret (results_ct rfl _ _ (w.heap.size + 1 + 1) 45 #[.slice AF fx.length cF, (.slice AO ops.length cO), .int .i64 b.f0, .int .i64 b.f1] (0, 0) _ rfl (blk_put (blk_put (blk_put (blk_put (BN.out) 0 _ rfl) 1 _ rfl) 2 _ rfl) 3 _ rfl) Tryd.underlying45 rfl (by kernel_rfl)) rfl ?_
            exact ⟨(.slice AO ops.length cO), by rw [HP.out]; rfl, by rw [HP.out]; exact HO.out.below (below_set (below_set (below_set (below_set (HB.out) hg) hg) hg) hg), by rw [HP.out]; exact .inl ⟨rfl, rfl⟩, below_set (below_set (below_set (below_set (HB.out) hg) hg) hg) hg⟩
          · have HP := Aside0.mk (show putA fx.length ops b o true = (insO ops o, 0) by unfold putA; rw [HLE.out, if_neg (by decide), if_neg (by rw [HI.out]; decide), if_neg (by unfold fullA; rw [decide_eq_false hc, decide_eq_false HF1.out]; simp)])
            have m7 : decide ((512 : Int) ≤ ((fx.length + creates ops : Nat) : Int)) = false := decide_eq_false (by omega)
            have m8 : (512 ≤ fx.length + creates ops) = False := eq_false hc
            have m9 : decide (((fx.length + creates ops : Nat) : Int) ≥ 512) = false := decide_eq_false (by omega)
            generalize fx.length + creates ops = c at m7 m8 m9 ⊢
            clear hc
            go_upto_region 16 with fail
            have HINS := Aside0.mk (show [] ++ ops.take R ++ [o] ++ ops.drop R = insO ops o by unfold insO; rw [← HR.out]; simp)
            obtain ⟨⟨s1, hs1, hp1⟩, ⟨s2, hs2, hp2, _⟩⟩ := HO.out.cut R HRL.out
            have HP1 := Aside0.mk hp1
            have HP2 := Aside0.mk hp2
            clear hp1 hp2 m1 m2 m3 m4 m5 m6
            have K1 := True.intro
            go_upto_region 20 with (first | (clear K1; at_builtin; refine wl_appO (B := w.heap.size + 1 + 1 + 1) (l := []) (ns := ops.take R) _ _ rfl rfl rfl (World.ownsRow_nil _ _ _ _) (blk_lt BN.out) (HP1.out.below HB.out) (by have := HOL.out; simp; omega) ?_; intro v1_ w1_ h1 h2 h3; have HA := Aside0.mk h1; replace BT := Aside0.mk ((h2 _ (by omega)).trans BT.out); replace BO := Aside0.mk ((h2 _ (by omega)).trans BO.out); replace BN := Aside0.mk ((h2 _ (by omega)).trans BN.out); replace HB := Aside0.mk (h3 HB.out (by omega)); clear y0 y1 y2 y3 y4 y5 y6 y7 y8 yf z0 z1 z2 z3 zf; obtain ⟨y0, y1, y2, y3, y4, y5, y6, y7, y8, yf⟩ := Z9 BO.out; obtain ⟨z0, z1, z2, z3, zf⟩ := Z4 BT.out; clear h1 h2 h3; have K2 := True.intro) | (clear K2; at_builtin; refine wl_appO (B := w.heap.size + 1 + 1 + 1) (l := [] ++ ops.take R) (ns := [o]) _ _ rfl rfl rfl (HA.out.alloc _) (by have := blk_lt BN.out; simp; omega) (one_part _ o) (by have := HOL.out; simp; omega) ?_; intro v2_ w2_ h1 h2 h3; have HA := Aside0.mk h1; replace BT := Aside0.mk ((h2 _ (by omega)).trans (blk_below BT.out (below_alloc (Below.refl _ _) _))); replace BO := Aside0.mk ((h2 _ (by omega)).trans (blk_below BO.out (below_alloc (Below.refl _ _) _))); replace BN := Aside0.mk ((h2 _ (by omega)).trans (blk_below BN.out (below_alloc (Below.refl _ _) _))); replace HB := Aside0.mk (h3 (below_alloc HB.out _) (by omega)); clear y0 y1 y2 y3 y4 y5 y6 y7 y8 yf z0 z1 z2 z3 zf; obtain ⟨y0, y1, y2, y3, y4, y5, y6, y7, y8, yf⟩ := Z9 BO.out; obtain ⟨z0, z1, z2, z3, zf⟩ := Z4 BT.out; clear h1 h2 h3; have K3 := True.intro) | (clear K3; at_builtin; refine wl_appO (B := w.heap.size + 1 + 1 + 1) (l := [] ++ ops.take R ++ [o]) (ns := ops.drop R) _ _ rfl rfl rfl HA.out (blk_lt BN.out) (HP2.out.below HB.out) (by have := HOL.out; simp; omega) ?_; intro v3_ w3_ h1 h2 h3; have HA := Aside0.mk h1; replace BT := Aside0.mk ((h2 _ (by omega)).trans BT.out); replace BO := Aside0.mk ((h2 _ (by omega)).trans BO.out); replace BN := Aside0.mk ((h2 _ (by omega)).trans BN.out); replace HB := Aside0.mk (h3 HB.out (by omega)); rw [HINS.out] at h1; replace HA := Aside0.mk h1; obtain ⟨A5, c5, e5, _, _⟩ := own_row h1; subst e5; clear y0 y1 y2 y3 y4 y5 y6 y7 y8 yf z0 z1 z2 z3 zf; obtain ⟨y0, y1, y2, y3, y4, y5, y6, y7, y8, yf⟩ := Z9 BO.out; obtain ⟨z0, z1, z2, z3, zf⟩ := Z4 BT.out; clear h1 h2 h3; have K4 := True.intro))
            replace BT := Aside0.mk (blk_put BT.out 1 (.slice A5 (insO ops o).length c5) rfl)
            replace BN := Aside0.mk (blk_far (p := ⟨w.heap.size, 1, none⟩) BN.out (show w.heap.size + 1 + 1 ≠ w.heap.size by omega) (.slice A5 (insO ops o).length c5))
            replace BO := Aside0.mk (blk_far (p := ⟨w.heap.size, 1, none⟩) BO.out (show w.heap.size + 1 ≠ w.heap.size by omega) (.slice A5 (insO ops o).length c5))
            replace HB := Aside0.mk (below_set HB.out (Nat.le_refl _) (j := 1) (v := .slice A5 (insO ops o).length c5))
            replace HA := Aside0.mk (ownsRow_setCell_below HA.out (a := ⟨w.heap.size, 1, none⟩) (show w.heap.size < w.heap.size + 1 + 1 + 1 by omega) (.slice A5 (insO ops o).length c5))
            generalize w3_.setCell ⟨w.heap.size, 1, none⟩ (.slice A5 (insO ops o).length c5) = w6 at BT BN BO HB HA ⊢
            clear y0 y1 y2 y3 y4 y5 y6 y7 y8 yf z0 z1 z2 z3 zf
            obtain ⟨y0, y1, y2, y3, y4, y5, y6, y7, y8, yf⟩ := Z9 BO.out
            obtain ⟨z0, z1, z2, z3, zf⟩ := Z4 BT.out
            obtain ⟨n0, n1, n2, n3, nf0, nf1, nf2, nf3⟩ := Z4 BN.out
            go_wp2
            try simp only [Exit.inBlock, Exit.then]
            refine bodyPost_ret (results_ct rfl _ _ (w.heap.size + 1 + 1) 45 #[.slice AF fx.length cF, (.slice A5 (insO ops o).length c5), .int .i64 b.f0, .int .i64 b.f1] (0, 0) _ rfl (blk_put (blk_put (blk_put (blk_put (BN.out) 0 _ rfl) 1 _ rfl) 2 _ rfl) 3 _ rfl) Tryd.underlying45 rfl (by kernel_rfl)) rfl ?_
            exact ⟨(.slice A5 (insO ops o).length c5), by rw [HP.out]; rfl, by rw [HP.out]; exact own_row (ownsRow_setCell_below (ownsRow_setCell_below (ownsRow_setCell_below (ownsRow_setCell_below HA.out (a := ⟨w.heap.size + 1 + 1, 0, none⟩) (show w.heap.size + 1 + 1 < w.heap.size + 1 + 1 + 1 by omega) _) (a := ⟨w.heap.size + 1 + 1, 1, none⟩) (show w.heap.size + 1 + 1 < w.heap.size + 1 + 1 + 1 by omega) _) (a := ⟨w.heap.size + 1 + 1, 2, none⟩) (show w.heap.size + 1 + 1 < w.heap.size + 1 + 1 + 1 by omega) _) (a := ⟨w.heap.size + 1 + 1, 3, none⟩) (show w.heap.size + 1 + 1 < w.heap.size + 1 + 1 + 1 by omega) _), by rw [HP.out]; exact .inr ⟨typed_own (ownsRow_setCell_below (ownsRow_setCell_below (ownsRow_setCell_below (ownsRow_setCell_below HA.out (a := ⟨w.heap.size + 1 + 1, 0, none⟩) (show w.heap.size + 1 + 1 < w.heap.size + 1 + 1 + 1 by omega) _) (a := ⟨w.heap.size + 1 + 1, 1, none⟩) (show w.heap.size + 1 + 1 < w.heap.size + 1 + 1 + 1 by omega) _) (a := ⟨w.heap.size + 1 + 1, 2, none⟩) (show w.heap.size + 1 + 1 < w.heap.size + 1 + 1 + 1 by omega) _) (a := ⟨w.heap.size + 1 + 1, 3, none⟩) (show w.heap.size + 1 + 1 < w.heap.size + 1 + 1 + 1 by omega) _), newer_own HA.out (by omega)⟩, below_set (below_set (below_set (below_set (HB.out) hg) hg) hg) hg⟩
        · have m4 : (o.f0 == 1) = false := beq_eq_false_iff_ne.2 hk
          have m5 : (o.f0 = 1) = False := eq_false hk
          have m6 : decide (o.f0 = 1) = false := decide_eq_false hk
          have HP := Aside0.mk (show putA fx.length ops b o true = (insO ops o, 0) by unfold putA; rw [HLE.out, if_neg (by decide), if_neg (by rw [HI.out]; decide), if_neg (by unfold fullA; rw [decide_eq_false HF1.out, m4]; simp)])
          clear hk
          generalize fx.length + creates ops = c
          go_upto_region 16 with fail
          have HINS := Aside0.mk (show [] ++ ops.take R ++ [o] ++ ops.drop R = insO ops o by unfold insO; rw [← HR.out]; simp)
          obtain ⟨⟨s1, hs1, hp1⟩, ⟨s2, hs2, hp2, _⟩⟩ := HO.out.cut R HRL.out
          have HP1 := Aside0.mk hp1
          have HP2 := Aside0.mk hp2
          clear hp1 hp2 m1 m2 m3 m4 m5 m6
          have K1 := True.intro
          go_upto_region 20 with (first | (clear K1; at_builtin; refine wl_appO (B := w.heap.size + 1 + 1 + 1) (l := []) (ns := ops.take R) _ _ rfl rfl rfl (World.ownsRow_nil _ _ _ _) (blk_lt BN.out) (HP1.out.below HB.out) (by have := HOL.out; simp; omega) ?_; intro v1_ w1_ h1 h2 h3; have HA := Aside0.mk h1; replace BT := Aside0.mk ((h2 _ (by omega)).trans BT.out); replace BO := Aside0.mk ((h2 _ (by omega)).trans BO.out); replace BN := Aside0.mk ((h2 _ (by omega)).trans BN.out); replace HB := Aside0.mk (h3 HB.out (by omega)); clear y0 y1 y2 y3 y4 y5 y6 y7 y8 yf z0 z1 z2 z3 zf; obtain ⟨y0, y1, y2, y3, y4, y5, y6, y7, y8, yf⟩ := Z9 BO.out; obtain ⟨z0, z1, z2, z3, zf⟩ := Z4 BT.out; clear h1 h2 h3; have K2 := True.intro) | (clear K2; at_builtin; refine wl_appO (B := w.heap.size + 1 + 1 + 1) (l := [] ++ ops.take R) (ns := [o]) _ _ rfl rfl rfl (HA.out.alloc _) (by have := blk_lt BN.out; simp; omega) (one_part _ o) (by have := HOL.out; simp; omega) ?_; intro v2_ w2_ h1 h2 h3; have HA := Aside0.mk h1; replace BT := Aside0.mk ((h2 _ (by omega)).trans (blk_below BT.out (below_alloc (Below.refl _ _) _))); replace BO := Aside0.mk ((h2 _ (by omega)).trans (blk_below BO.out (below_alloc (Below.refl _ _) _))); replace BN := Aside0.mk ((h2 _ (by omega)).trans (blk_below BN.out (below_alloc (Below.refl _ _) _))); replace HB := Aside0.mk (h3 (below_alloc HB.out _) (by omega)); clear y0 y1 y2 y3 y4 y5 y6 y7 y8 yf z0 z1 z2 z3 zf; obtain ⟨y0, y1, y2, y3, y4, y5, y6, y7, y8, yf⟩ := Z9 BO.out; obtain ⟨z0, z1, z2, z3, zf⟩ := Z4 BT.out; clear h1 h2 h3; have K3 := True.intro) | (clear K3; at_builtin; refine wl_appO (B := w.heap.size + 1 + 1 + 1) (l := [] ++ ops.take R ++ [o]) (ns := ops.drop R) _ _ rfl rfl rfl HA.out (blk_lt BN.out) (HP2.out.below HB.out) (by have := HOL.out; simp; omega) ?_; intro v3_ w3_ h1 h2 h3; have HA := Aside0.mk h1; replace BT := Aside0.mk ((h2 _ (by omega)).trans BT.out); replace BO := Aside0.mk ((h2 _ (by omega)).trans BO.out); replace BN := Aside0.mk ((h2 _ (by omega)).trans BN.out); replace HB := Aside0.mk (h3 HB.out (by omega)); rw [HINS.out] at h1; replace HA := Aside0.mk h1; obtain ⟨A5, c5, e5, _, _⟩ := own_row h1; subst e5; clear y0 y1 y2 y3 y4 y5 y6 y7 y8 yf z0 z1 z2 z3 zf; obtain ⟨y0, y1, y2, y3, y4, y5, y6, y7, y8, yf⟩ := Z9 BO.out; obtain ⟨z0, z1, z2, z3, zf⟩ := Z4 BT.out; clear h1 h2 h3; have K4 := True.intro))
          replace BT := Aside0.mk (blk_put BT.out 1 (.slice A5 (insO ops o).length c5) rfl)
          replace BN := Aside0.mk (blk_far (p := ⟨w.heap.size, 1, none⟩) BN.out (show w.heap.size + 1 + 1 ≠ w.heap.size by omega) (.slice A5 (insO ops o).length c5))
          replace BO := Aside0.mk (blk_far (p := ⟨w.heap.size, 1, none⟩) BO.out (show w.heap.size + 1 ≠ w.heap.size by omega) (.slice A5 (insO ops o).length c5))
          replace HB := Aside0.mk (below_set HB.out (Nat.le_refl _) (j := 1) (v := .slice A5 (insO ops o).length c5))
          replace HA := Aside0.mk (ownsRow_setCell_below HA.out (a := ⟨w.heap.size, 1, none⟩) (show w.heap.size < w.heap.size + 1 + 1 + 1 by omega) (.slice A5 (insO ops o).length c5))
          generalize w3_.setCell ⟨w.heap.size, 1, none⟩ (.slice A5 (insO ops o).length c5) = w6 at BT BN BO HB HA ⊢
          clear y0 y1 y2 y3 y4 y5 y6 y7 y8 yf z0 z1 z2 z3 zf
          obtain ⟨y0, y1, y2, y3, y4, y5, y6, y7, y8, yf⟩ := Z9 BO.out
          obtain ⟨z0, z1, z2, z3, zf⟩ := Z4 BT.out
          obtain ⟨n0, n1, n2, n3, nf0, nf1, nf2, nf3⟩ := Z4 BN.out
          go_wp2
          try simp only [Exit.inBlock, Exit.then]
          refine bodyPost_ret (results_ct rfl _ _ (w.heap.size + 1 + 1) 45 #[.slice AF fx.length cF, (.slice A5 (insO ops o).length c5), .int .i64 b.f0, .int .i64 b.f1] (0, 0) _ rfl (blk_put (blk_put (blk_put (blk_put (BN.out) 0 _ rfl) 1 _ rfl) 2 _ rfl) 3 _ rfl) Tryd.underlying45 rfl (by kernel_rfl)) rfl ?_
          exact ⟨(.slice A5 (insO ops o).length c5), by rw [HP.out]; rfl, by rw [HP.out]; exact own_row (ownsRow_setCell_below (ownsRow_setCell_below (ownsRow_setCell_below (ownsRow_setCell_below HA.out (a := ⟨w.heap.size + 1 + 1, 0, none⟩) (show w.heap.size + 1 + 1 < w.heap.size + 1 + 1 + 1 by omega) _) (a := ⟨w.heap.size + 1 + 1, 1, none⟩) (show w.heap.size + 1 + 1 < w.heap.size + 1 + 1 + 1 by omega) _) (a := ⟨w.heap.size + 1 + 1, 2, none⟩) (show w.heap.size + 1 + 1 < w.heap.size + 1 + 1 + 1 by omega) _) (a := ⟨w.heap.size + 1 + 1, 3, none⟩) (show w.heap.size + 1 + 1 < w.heap.size + 1 + 1 + 1 by omega) _), by rw [HP.out]; exact .inr ⟨typed_own (ownsRow_setCell_below (ownsRow_setCell_below (ownsRow_setCell_below (ownsRow_setCell_below HA.out (a := ⟨w.heap.size + 1 + 1, 0, none⟩) (show w.heap.size + 1 + 1 < w.heap.size + 1 + 1 + 1 by omega) _) (a := ⟨w.heap.size + 1 + 1, 1, none⟩) (show w.heap.size + 1 + 1 < w.heap.size + 1 + 1 + 1 by omega) _) (a := ⟨w.heap.size + 1 + 1, 2, none⟩) (show w.heap.size + 1 + 1 < w.heap.size + 1 + 1 + 1 by omega) _) (a := ⟨w.heap.size + 1 + 1, 3, none⟩) (show w.heap.size + 1 + 1 < w.heap.size + 1 + 1 + 1 by omega) _), newer_own HA.out (by omega)⟩, below_set (below_set (below_set (below_set (HB.out) hg) hg) hg) hg⟩
end Go.Proofs.YtlfgdaiegefjiaaDoor.S
