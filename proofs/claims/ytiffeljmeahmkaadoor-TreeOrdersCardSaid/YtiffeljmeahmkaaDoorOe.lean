/- The law TreeOrders. -/
import Derived.Test.YtiffeljmeahmkaaDoorOd
import Derived.Test.YtiffeljmeahmkaaDoorMz
namespace Go.Proofs.YtiffeljmeahmkaaDoor.S
open Go.RowKit Go.Proofs.YtiffeljmeahmkaaDoorW.PrintWords Go.Proofs.YtiffeljmeahmkaaDoorW.PrintLast Go.Proofs.YtiffeljmeahmkaaDoorW.PrintMore
set_option linter.unusedVariables false
set_option linter.unusedSimpArgs false
attribute [local go_sem high] eqA25 eqA28 eqA36
theorem TreeAt.foot_lt {w : World} {B g f n : Nat} {v : Value} {T : Tr} (h : TreeAt w B g f n v T) {k : Nat} (hk : foot g f n v k) : k < w.heap.size := by
  rcases hk with rfl | rfl | rfl | hk
  · exact blk_lt h.blk
  · exact h.fix.lt
  · exact h.now.lt
  · exact h.ops.own_lt _ hk
theorem TreeAt.foot_ge {w : World} {B g f n : Nat} {v : Value} {T : Tr} (h : TreeAt w B g f n v T) {k : Nat} (hk : foot g f n v k) : B ≤ k := by
  rcases hk with rfl | rfl | rfl | hk
  · exact h.bg
  · exact h.bf
  · exact h.bn
  · exact OpsAt.own_ge h.ops k hk
theorem TreeAt.new_base {w : World} {B B' g f n : Nat} (h : TreeAt w B g f n (.slice none 0 0) ⟨[], [], [], St0⟩) (hb : B' ≤ B) : TreeAt w B' g f n (.slice none 0 0) ⟨[], [], [], St0⟩ :=
  ⟨h.blk, h.fix, h.now, Kd.R_nil _ _ _ _ _, h.ne, Nat.le_trans hb h.bg, Nat.le_trans hb h.bf, Nat.le_trans hb h.bn⟩
/-- Trees lie apart. -/
def Apart (g f n : Nat) (v : Value) (g' f' n' : Nat) (v' : Value) : Prop := ∀ k, foot g f n v k → ¬ foot g' f' n' v' k
/-- Three trees of a law, each of which some operations have come to. -/
structure Three (w wr : World) (l : List Opn) (gA fA nA : Nat) (vA : Value) (TA : Tr) (PA : Opn → Prop) (gB fB nB : Nat) (vB : Value) (TB : Tr) (PB : Opn → Prop) (gC fC nC : Nat) (vC : Value) (TC : Tr) (PC : Opn → Prop) : Prop where
  a : TreeAt wr w.heap.size gA fA nA vA TA
  b : TreeAt wr w.heap.size gB fB nB vB TB
  c : TreeAt wr w.heap.size gC fC nC vC TC
  ca : Came l PA TA
  cb : Came l PB TB
  cc : Came l PC TC
  ab : Apart gA fA nA vA gB fB nB vB
  ac : Apart gA fA nA vA gC fC nC vC
  bc : Apart gB fB nB vB gC fC nC vC
  below : Below w.heap.size w wr
theorem Apart.symm {g f n : Nat} {v : Value} {g' f' n' : Nat} {v' : Value} (h : Apart g f n v g' f' n' v') : Apart g' f' n' v' g f n v := fun k h1 h2 => h k h2 h1
theorem Apart.next {w : World} {B g f n : Nat} {v v1 : Value} {g' f' n' : Nat} {v' : Value} {T' : Tr} (h : Apart g f n v g' f' n' v') (ht : TreeAt w B g' f' n' v' T') (h5 : ∀ k, v1.ownBlock = some k → v.ownBlock = some k ∨ w.heap.size ≤ k) : Apart g f n v1 g' f' n' v' := by
  intro k hk hk'
  rcases hk with hk | hk | hk | hk
  · exact h k (.inl hk) hk'
  · exact h k (.inr (.inl hk)) hk'
  · exact h k (.inr (.inr (.inl hk))) hk'
  · rcases h5 k hk with h6 | h6
    · exact h k (.inr (.inr (.inr h6))) hk'
    · have := ht.foot_lt hk'
      omega
section
variable {w wr w' : World} {l : List Opn} {gA fA nA : Nat} {vA : Value} {TA : Tr} {PA : Opn → Prop} {gB fB nB : Nat} {vB : Value} {TB : Tr} {PB : Opn → Prop} {gC fC nC : Nat} {vC : Value} {TC : Tr} {PC : Opn → Prop}
theorem Three.rot (h : Three w wr l gA fA nA vA TA PA gB fB nB vB TB PB gC fC nC vC TC PC) : Three w wr l gB fB nB vB TB PB gC fC nC vC TC PC gA fA nA vA TA PA :=
  ⟨h.b, h.c, h.a, h.cb, h.cc, h.ca, h.bc, h.ab.symm, h.ac.symm, h.below⟩
theorem Three.under (h : Three w wr l gA fA nA vA TA PA gB fB nB vB TB PB gC fC nC vC TC PC) (hb : Below wr.heap.size wr w') : Three w w' l gA fA nA vA TA PA gB fB nB vB TB PB gC fC nC vC TC PC :=
  ⟨h.a.below hb, h.b.below hb, h.c.below hb, h.ca, h.cb, h.cc, h.ab, h.ac, h.bc, below_then h.below h.below.size hb⟩
theorem Three.stepA {v' : Value} {T' : Tr} {P' : Opn → Prop} (h : Three w wr l gA fA nA vA TA PA gB fB nB vB TB PB gC fC nC vC TC PC) (ht : TreeAt w' w.heap.size gA fA nA v' T') (hc : Came l P' T') (h4 : Stay wr w' (foot gA fA nA vA)) (h5 : ∀ k, v'.ownBlock = some k → vA.ownBlock = some k ∨ wr.heap.size ≤ k) : Three w w' l gA fA nA v' T' P' gB fB nB vB TB PB gC fC nC vC TC PC :=
  ⟨ht, h.b.stay h4 (fun k hk hf => h.ab k hf hk), h.c.stay h4 (fun k hk hf => h.ac k hf hk), hc, h.cb, h.cc, h.ab.next h.b h5, h.ac.next h.c h5, h.bc, h.a.back h4 h.below⟩
end
theorem Came.congr {l : List Opn} {P Q : Opn → Prop} {T : Tr} (h : Came l P T) (hpq : ∀ x, P x ↔ Q x) : Came l Q T := ⟨h.fresh, fun x => by rw [h.mem, hpq]⟩
theorem two_trees {w w1 w2 : World} {gA fA nA gB fB nB : Nat} (h : TreeAt w1 w.heap.size gA fA nA (.slice none 0 0) ⟨[], [], [], St0⟩) (hb : Below w.heap.size w w1) (h' : TreeAt w2 w1.heap.size gB fB nB (.slice none 0 0) ⟨[], [], [], St0⟩) (hb' : Below w1.heap.size w1 w2) :
    TreeAt w2 w.heap.size gA fA nA (.slice none 0 0) ⟨[], [], [], St0⟩ ∧ TreeAt w2 w.heap.size gB fB nB (.slice none 0 0) ⟨[], [], [], St0⟩ ∧ Apart gA fA nA (.slice none 0 0) gB fB nB (.slice none 0 0) ∧ Below w.heap.size w w2 :=
  ⟨h.below hb', h'.new_base hb.size, fun k h1 h2 => by have := h.foot_lt h1; have := h'.foot_ge h2; omega, below_then hb hb.size hb'⟩
theorem three_trees {w w1 w2 : World} {gA fA nA gB fB nB gC fC nC : Nat} {l : List Opn} (h : TreeAt w1 w.heap.size gA fA nA (.slice none 0 0) ⟨[], [], [], St0⟩ ∧ TreeAt w1 w.heap.size gB fB nB (.slice none 0 0) ⟨[], [], [], St0⟩ ∧ Apart gA fA nA (.slice none 0 0) gB fB nB (.slice none 0 0) ∧ Below w.heap.size w w1) (h' : TreeAt w2 w1.heap.size gC fC nC (.slice none 0 0) ⟨[], [], [], St0⟩) (hb' : Below w1.heap.size w1 w2) :
    Three w w2 l gA fA nA (.slice none 0 0) ⟨[], [], [], St0⟩ (fun _ => False) gB fB nB (.slice none 0 0) ⟨[], [], [], St0⟩ (fun _ => False) gC fC nC (.slice none 0 0) ⟨[], [], [], St0⟩ (fun _ => False) :=
  ⟨h.1.below hb', h.2.1.below hb', h'.new_base h.2.2.2.size, came_new l, came_new l, came_new l, h.2.2.1, fun k h1 h2 => by have := h.1.foot_lt h1; have := h'.foot_ge h2; omega, fun k h1 h2 => by have := h.2.1.foot_lt h1; have := h'.foot_ge h2; omega, below_then h.2.2.2 h.2.2.2.size hb'⟩
/-- Two operations of one stamp that are not the same. -/
def viol (l : List Opn) (y x : Int) : Prop := (rd_T28 l y).f1 = (rd_T28 l x).f1 ∧ (rd_T28 l y) ≠ (rd_T28 l x)
theorem ba_ext {a b : ByteArray} (h : a.data.toList = b.data.toList) : a = b := by
  cases a; cases b; congr 1; exact Array.toList_inj.1 h
theorem or_k {k2 : Nat} {y x n : Int} (h : ((k2 + 1 : Nat) : Int) + y = n + 1 ∧ 0 ≤ y ∧ y ≤ x) (h1 : y < x) : (k2 : Int) + (y + 1) = n + 1 ∧ 0 ≤ y + 1 ∧ y + 1 ≤ x := by omega
theorem or_next {l : List Opn} {y x : Int} (h : ∀ b : Int, 0 ≤ b → b < y → ¬ viol l b x) (hn : ¬ viol l y x) : ∀ b : Int, 0 ≤ b → b < y + 1 → ¬ viol l b x := fun b h1 h2 => by
  by_cases e : b = y
  · rw [e]; exact hn
  · exact h b h1 (by omega)
theorem or_all {l : List Opn} {x : Int} (h : ∀ a b : Int, 0 ≤ b → b < a → a < x → ¬ viol l b a) (hn : ∀ b : Int, 0 ≤ b → b < x → ¬ viol l b x) : ∀ a b : Int, 0 ≤ b → b < a → a < x + 1 → ¬ viol l b a := fun a b h1 h2 h3 => by
  by_cases e : a = x
  · subst e; exact hn b h1 h2
  · exact h a b h1 h2 (by omega)
theorem one_each {l : List Opn} (h : ∀ a b : Int, 0 ≤ b → b < a → a < (l.length : Int) → ¬ viol l b a) : OneEach l := by
  intro x hx y hy e
  obtain ⟨i, hi, rfl⟩ := List.getElem_of_mem hx
  obtain ⟨j, hj, rfl⟩ := List.getElem_of_mem hy
  by_cases hxy : l[i] = l[j]
  · exact hxy
  · exfalso
    rcases Nat.lt_trichotomy i j with hij | hij | hij
    · exact h j i (by omega) (by omega) (by omega) ⟨by rw [rd_at l i hi, rd_at l j hj]; exact e, by rw [rd_at l i hi, rd_at l j hj]; exact hxy⟩
    · subst hij; exact hxy rfl
    · exact h i j (by omega) (by omega) (by omega) ⟨by rw [rd_at l i hi, rd_at l j hj]; exact e.symm, by rw [rd_at l i hi, rd_at l j hj]; exact fun e2 => hxy e2.symm⟩
theorem fc_true {ky kx t2y t2x w2y w2x t3y t3x w3y w3x : Int} {nmy nmx vly vlx : ByteArray} (hs : ¬ (ky = kx ∧ t2y = t2x ∧ w2y = w2x ∧ t3y = t3x ∧ w3y = w3x ∧ nmy = nmx ∧ vly = vlx)) : ((!(ky == kx)) || (((!(t2y == t2x)) || (!(w2y == w2x))) || (((!(t3y == t3x)) || (!(w3y == w3x))) || ((!(nmy.toList == nmx.toList)) || (!(vly.toList == vlx.toList)))))) = true := by
  cases h : ((!(ky == kx)) || (((!(t2y == t2x)) || (!(w2y == w2x))) || (((!(t3y == t3x)) || (!(w3y == w3x))) || ((!(nmy.toList == nmx.toList)) || (!(vly.toList == vlx.toList)))))) with
  | true => rfl
  | false =>
    exfalso
    simp only [Bool.or_eq_false_iff, Bool.not_eq_false', beq_iff_eq] at h
    obtain ⟨h1, ⟨h2, h3⟩, ⟨h4, h5⟩, h6, h7⟩ := h
    rw [toL, toL] at h6 h7
    exact hs ⟨h1, h2, h3, h4, h5, ba_ext h6, ba_ext h7⟩
def PA (l : List Opn) (x : Int) (o : Opn) : Prop := ∃ a : Int, 0 ≤ a ∧ a < x ∧ o = rd_T28 l a
def PB (l : List Opn) (t : Nat) (x : Int) (o : Opn) : Prop := ∃ a : Int, 0 ≤ a ∧ a < x ∧ o = rd_T28 l ((a + t) % (l.length : Int))
def PC (l : List Opn) (x : Int) (o : Opn) : Prop := ∃ a : Int, 0 ≤ a ∧ a < x ∧ o = rd_T28 l ((l.length : Int) - 1 - a)
section
variable {w wr w' : World} {l : List Opn} {gA fA nA : Nat} {vA : Value} {TA : Tr} {P Q R P' Q' R' : Opn → Prop} {gB fB nB : Nat} {vB : Value} {TB : Tr} {gC fC nC : Nat} {vC : Value} {TC : Tr}
theorem Three.congr (h : Three w wr l gA fA nA vA TA P gB fB nB vB TB Q gC fC nC vC TC R) (h1 : ∀ o, P o ↔ P' o) (h2 : ∀ o, Q o ↔ Q' o) (h3 : ∀ o, R o ↔ R' o) : Three w wr l gA fA nA vA TA P' gB fB nB vB TB Q' gC fC nC vC TC R' :=
  ⟨h.a, h.b, h.c, h.ca.congr h1, h.cb.congr h2, h.cc.congr h3, h.ab, h.ac, h.bc, h.below⟩
end
theorem PA_zero (l : List Opn) (o : Opn) : False ↔ PA l 0 o := ⟨False.elim, fun ⟨a, h1, h2, _⟩ => by omega⟩
theorem PB_zero (l : List Opn) (t : Nat) (o : Opn) : False ↔ PB l t 0 o := ⟨False.elim, fun ⟨a, h1, h2, _⟩ => by omega⟩
theorem PC_zero (l : List Opn) (o : Opn) : False ↔ PC l 0 o := ⟨False.elim, fun ⟨a, h1, h2, _⟩ => by omega⟩
theorem PA_mem {l : List Opn} {a : Int} (h0 : 0 ≤ a) (h1 : a < (l.length : Int)) : rd_T28 l a ∈ l := by
  obtain ⟨i, rfl⟩ : ∃ i : Nat, a = i := ⟨a.toNat, by omega⟩
  rw [rd_at l i (by omega)]
  exact List.getElem_mem _
theorem PA_sub {l : List Opn} {x : Int} (hx : x < (l.length : Int)) : ∀ o, PA l x o → o ∈ l := fun o ⟨a, h1, h2, e⟩ => by rw [e]; exact PA_mem h1 (by omega)
theorem mod_in {a n : Int} (h : 0 < n) : 0 ≤ a % n ∧ a % n < n := ⟨Int.emod_nonneg _ (by omega), Int.emod_lt_of_pos _ h⟩
theorem PB_sub {l : List Opn} {t : Nat} {x : Int} (hx : x < (l.length : Int)) : ∀ o, PB l t x o → o ∈ l := fun o ⟨a, h1, h2, e⟩ => by
  have := mod_in (a := a + t) (n := (l.length : Int)) (by omega)
  rw [e]
  exact PA_mem this.1 this.2
theorem PC_sub {l : List Opn} {x : Int} (hx : x < (l.length : Int)) : ∀ o, PC l x o → o ∈ l := fun o ⟨a, h1, h2, e⟩ => by rw [e]; exact PA_mem (by omega) (by omega)
theorem PA_next {l : List Opn} {x : Int} (h0 : 0 ≤ x) (o : Opn) : (o = rd_T28 l x ∨ PA l x o) ↔ PA l (x + 1) o := by
  constructor
  · rintro (rfl | ⟨a, h1, h2, e⟩)
    · exact ⟨x, h0, by omega, rfl⟩
    · exact ⟨a, h1, by omega, e⟩
  · rintro ⟨a, h1, h2, e⟩
    by_cases h : a = x
    · subst h; exact .inl e
    · exact .inr ⟨a, h1, by omega, e⟩
theorem PB_next {l : List Opn} {t : Nat} {x y : Int} (h0 : 0 ≤ x) (hy : y = (x + t) % (l.length : Int)) (o : Opn) : (o = rd_T28 l y ∨ PB l t x o) ↔ PB l t (x + 1) o := by
  subst hy
  constructor
  · rintro (rfl | ⟨a, h1, h2, e⟩)
    · exact ⟨x, h0, by omega, rfl⟩
    · exact ⟨a, h1, by omega, e⟩
  · rintro ⟨a, h1, h2, e⟩
    by_cases h : a = x
    · subst h; exact .inl e
    · exact .inr ⟨a, h1, by omega, e⟩
theorem PC_next2 {l : List Opn} {x z : Int} (h0 : 0 ≤ x) (hz : z = (l.length : Int) - 1 - x) (o : Opn) : (o = rd_T28 l z ∨ (o = rd_T28 l z ∨ PC l x o)) ↔ PC l (x + 1) o := by
  subst hz
  constructor
  · rintro (rfl | rfl | ⟨a, h1, h2, e⟩)
    · exact ⟨x, h0, by omega, rfl⟩
    · exact ⟨x, h0, by omega, rfl⟩
    · exact ⟨a, h1, by omega, e⟩
  · rintro ⟨a, h1, h2, e⟩
    by_cases h : a = x
    · subst h; exact .inl e
    · exact .inr (.inr ⟨a, h1, by omega, e⟩)
theorem PA_all {l : List Opn} (o : Opn) : PA l (l.length : Int) o ↔ o ∈ l := by
  constructor
  · rintro ⟨a, h1, h2, e⟩; rw [e]; exact PA_mem h1 h2
  · intro h
    obtain ⟨i, hi, rfl⟩ := List.getElem_of_mem h
    exact ⟨i, by omega, by omega, (rd_at l i hi).symm⟩
theorem PC_all {l : List Opn} (o : Opn) : PC l (l.length : Int) o ↔ o ∈ l := by
  constructor
  · rintro ⟨a, h1, h2, e⟩; rw [e]; exact PA_mem (by omega) (by omega)
  · intro h
    obtain ⟨i, hi, rfl⟩ := List.getElem_of_mem h
    refine ⟨(l.length : Int) - 1 - i, by omega, by omega, ?_⟩
    rw [show (l.length : Int) - 1 - ((l.length : Int) - 1 - i) = (i : Int) by omega, rd_at l i hi]
theorem PB_all {l : List Opn} (t : Nat) (o : Opn) : PB l t (l.length : Int) o ↔ o ∈ l := by
  constructor
  · rintro ⟨a, h1, h2, e⟩
    have := mod_in (a := a + t) (n := (l.length : Int)) (by omega)
    rw [e]
    exact PA_mem this.1 this.2
  · intro h
    obtain ⟨i, hi, rfl⟩ := List.getElem_of_mem h
    have hm := mod_in (a := (i : Int) - t) (n := (l.length : Int)) (by omega)
    refine ⟨((i : Int) - t) % (l.length : Int), hm.1, hm.2, ?_⟩
    rw [Int.emod_add_emod, Int.sub_add_cancel, Int.emod_eq_of_lt (by omega) (by omega), rd_at l i hi]
theorem or_index {l : List Opn} {t : Nat} {x : Int} (h0 : 0 ≤ x) (hx : x < (l.length : Int)) (hl : l.length ≤ 30) (ht : t < 256) : wrap64 (x + 1) = x + 1 ∧ ∃ y z n1 : Int, wrap64 (x + t) = x + t ∧ (x + t).tmod (l.length : Int) = y ∧ 0 ≤ y ∧ y < (l.length : Int) ∧ y = (x + t) % (l.length : Int) ∧ wrap64 ((l.length : Int) - 1) = n1 ∧ wrap64 (n1 - x) = z ∧ 0 ≤ z ∧ z < (l.length : Int) ∧ z = (l.length : Int) - 1 - x := by
  have hm := mod_in (a := x + t) (n := (l.length : Int)) (by omega)
  refine ⟨by unfold wrap64; omega, (x + t) % (l.length : Int), (l.length : Int) - 1 - x, (l.length : Int) - 1, by unfold wrap64; omega, Int.tmod_eq_emod_of_nonneg (by omega), hm.1, hm.2, rfl, by unfold wrap64; omega, by unfold wrap64; omega, by omega, by omega, rfl⟩
-- TABLE BEGIN
def orders_.T11 : Bool × List (List Nat × List Nat) := (true, [([], []), ([], []), ([0, 1], [0, 1]), ([2], [2]), ([3], [3]), ([], []), ([], []), ([5, 6], [5, 6]), ([7], [7]), ([8], [8]), ([4, 9], [4, 9]), ([10], [10]), ([11], [11]), ([11], [11]), ([12, 13, 11], [11, 12, 13]), ([14, 11], [11, 14]), ([11], [11]), ([11], [11]), ([16, 17, 11], [11, 16, 17]), ([18, 11], [11, 18]), ([15, 19, 11], [11, 15, 19]), ([11, 20], [11, 20])])
def orders_.B11 : List Nat := [0, 0, 3, 7, 15, 0, 0, 96, 224, 480, 1023, 2047, 4095, 4095, 16383, 32767, 4095, 4095, 200703, 462847, 1048575, 2097151]
theorem orders_.tab11 : rtab .any (opsOf Tryd.f7 11) = orders_.T11 := by kernel_rfl
theorem orders_.bits11 : waitsOk orders_.T11.2 orders_.B11 = true := by kernel_rfl
-- TABLE END
set_option maxRecDepth 100000 in
set_option maxHeartbeats 4000000 in
theorem orders_calls (w : World) (A0 : Option Addr) (c0 : Nat) (l : List Opn) (turn : Int) (hr : Kd.C k28 w A0 l.length l) (hc0 : l.length ≤ c0) (hL : Laid w) : Calls Tryd.prog 7 #[.slice A0 l.length c0, .int .i64 turn] w fun e w' => e = .returned (.bool true) ∧ Below w.heap.size w w' := by
  have hu := Tryd.underlying28
  have hu1 := Tryd.underlying25
  have HL := Aside0.mk hL
  have HR := Aside0.mk hr
  have HC0 := Aside0.mk hc0
  obtain ⟨kf, rf, hfw, hfew⟩ := few_is l 30 (by decide)
  have HFW := Aside0.mk hfw
  have HFEW := Aside0.mk hfew
  clear hL hr hc0 hfw hfew
  go_enter Tryd.func7, Tryd.ntmps7
  cases rf with
  | false =>
    go_wp2_with (first
      | (go_at_call 12; have _ := HT2; refine (New_calls _).mono ?_; rintro e w1 ⟨gC, fC, nC, rfl, ht, hb⟩; have HX := Aside0.mk (three_trees (l := l) HT2.out ht hb); clear HT2; clear ht hb)
      | (go_at_call 12; have _ := HT1; refine (New_calls _).mono ?_; rintro e w1 ⟨gB, fB, nB, rfl, ht, hb⟩; have HT2 := Aside0.mk (two_trees HT1.out HB1.out ht hb); clear HT1 HB1; clear ht hb)
      | (go_at_call 12; refine (New_calls _).mono ?_; rintro e w1 ⟨gA, fA, nA, rfl, ht, hb⟩; have HT1 := Aside0.mk ht; have HB1 := Aside0.mk hb; clear ht hb)
      | (go_at_call 20; refine (samphirelaw11_few.calls kf A0 c0 l 30 false _ (Kd.C_below HR.out HX.out.below) HC0.out HFW.out).mono ?_; rintro e w1 ⟨rfl, hb⟩; replace HX := Aside0.mk (HX.out.under hb); clear hb)
      | (go_at_call 16; refine (awake_calls _ (HL.out.below HX.out.below)).mono ?_; rintro e w1 ⟨rfl, hb⟩; replace HX := Aside0.mk (HX.out.under hb); clear hb))
    go_ret
    exact ⟨rfl, HX.out.below⟩
  | true =>
    have HFT := Aside0.mk (HFEW.out rfl)
    clear HFEW
    by_cases hl0 : l = []
    · subst hl0
      go_wp2_with (first
        | (go_at_call 12; have _ := HT2; refine (New_calls _).mono ?_; rintro e w1 ⟨gC, fC, nC, rfl, ht, hb⟩; have HX := Aside0.mk (three_trees (l := []) HT2.out ht hb); clear HT2; clear ht hb)
        | (go_at_call 12; have _ := HT1; refine (New_calls _).mono ?_; rintro e w1 ⟨gB, fB, nB, rfl, ht, hb⟩; have HT2 := Aside0.mk (two_trees HT1.out HB1.out ht hb); clear HT1 HB1; clear ht hb)
        | (go_at_call 12; refine (New_calls _).mono ?_; rintro e w1 ⟨gA, fA, nA, rfl, ht, hb⟩; have HT1 := Aside0.mk ht; have HB1 := Aside0.mk hb; clear ht hb)
        | (go_at_call 20; refine (samphirelaw11_few.calls kf A0 c0 [] 30 true _ (Kd.C_below HR.out HX.out.below) HC0.out HFW.out).mono ?_; rintro e w1 ⟨rfl, hb⟩; replace HX := Aside0.mk (HX.out.under hb); clear hb)
        | (go_at_call 16; refine (awake_calls _ (HL.out.below HX.out.below)).mono ?_; rintro e w1 ⟨rfl, hb⟩; replace HX := Aside0.mk (HX.out.under hb); clear hb))
      go_ret
      exact ⟨rfl, HX.out.below⟩
    · have HNE := Aside0.mk (show 1 ≤ l.length from Nat.one_le_iff_ne_zero.2 (fun e => hl0 (List.eq_nil_of_length_eq_zero e)))
      have z1 : decide ((l.length : Int) = 0) = false := decide_eq_false (by have := HNE.out; omega)
      have z2 : ((l.length : Int) == 0) = false := beq_eq_false_iff_ne.2 (by have := HNE.out; omega)
      have z3 : (l = []) = False := eq_false hl0
      have z4 : decide (l = []) = false := decide_eq_false hl0
      have z5 : (l.length == 0) = false := beq_eq_false_iff_ne.2 (by have := HNE.out; omega)
      clear hl0
      go_upto_region 5 with (first
        | (go_at_call 12; have _ := HT2; refine (New_calls _).mono ?_; rintro e w1 ⟨gC, fC, nC, rfl, ht, hb⟩; have HX := Aside0.mk (three_trees (l := l) HT2.out ht hb); clear HT2; clear ht hb)
        | (go_at_call 12; have _ := HT1; refine (New_calls _).mono ?_; rintro e w1 ⟨gB, fB, nB, rfl, ht, hb⟩; have HT2 := Aside0.mk (two_trees HT1.out HB1.out ht hb); clear HT1 HB1; clear ht hb)
        | (go_at_call 12; refine (New_calls _).mono ?_; rintro e w1 ⟨gA, fA, nA, rfl, ht, hb⟩; have HT1 := Aside0.mk ht; have HB1 := Aside0.mk hb; clear ht hb)
        | (go_at_call 20; refine (samphirelaw11_few.calls kf A0 c0 l 30 true _ (Kd.C_below HR.out HX.out.below) HC0.out HFW.out).mono ?_; rintro e w1 ⟨rfl, hb⟩; replace HX := Aside0.mk (HX.out.under hb); clear hb)
        | (go_at_call 16; refine (awake_calls _ (HL.out.below HX.out.below)).mono ?_; rintro e w1 ⟨rfl, hb⟩; replace HX := Aside0.mk (HX.out.under hb); clear hb))
      clear z1 z2 z3 z4 z5
      go_wp2_with fail
      try go_frame
      go_loopg [9] (l.length + 1) (fun kq p wr => ∃ (x : Int), Aside0 ((kq : Int) + x = (l.length : Int) + 1 ∧ 0 ≤ x ∧ x ≤ (l.length : Int)) ∧ p = .int .i64 x ∧ Aside0 (∀ a b : Int, 0 ≤ b → b < a → a < x → ¬ viol l b a) ∧ Aside0 (Three w wr l gA fA nA (.slice none 0 0) ⟨[], [], [], St0⟩ (fun _ => False) gB fB nB (.slice none 0 0) ⟨[], [], [], St0⟩ (fun _ => False) gC fC nC (.slice none 0 0) ⟨[], [], [], St0⟩ (fun _ => False)))
      case atStart => exact ⟨0, ⟨by omega⟩, rfl, ⟨fun a b h1 h2 h3 => absurd h3 (by omega)⟩, HX⟩
      case round =>
        clear HX
        obtain ⟨x, HK, rfl, HD, HX⟩ := hrel
        obtain ⟨k1, rfl⟩ : ∃ k1, gk = k1 + 1 := ⟨((l.length : Int) - x).toNat, by have := HK.out; omega⟩
        have h0 : 0 ≤ x := HK.out.2.1
        by_cases hx : x < (l.length : Int)
        · have b1 : decide (x < (l.length : Int)) = true := decide_eq_true hx
          have H0 := Aside0.mk h0
          have H1 := Aside0.mk hx
          have hw1 : wrap64 (x + 1) = x + 1 := by have := HFT.out.1; unfold wrap64; omega
          have p1_ := eq_true h0
          have q1_ := eq_true hx
          clear hx h0
          go_wp2_with fail
          try go_frame
          go_loopg [10] (l.length + 1) (fun kq p wr => ∃ (y : Int), Aside0 ((kq : Int) + y = (l.length : Int) + 1 ∧ 0 ≤ y ∧ y ≤ x) ∧ p = .int .i64 y ∧ Aside0 (∀ b : Int, 0 ≤ b → b < y → ¬ viol l b x) ∧ Aside0 (Three w wr l gA fA nA (.slice none 0 0) ⟨[], [], [], St0⟩ (fun _ => False) gB fB nB (.slice none 0 0) ⟨[], [], [], St0⟩ (fun _ => False) gC fC nC (.slice none 0 0) ⟨[], [], [], St0⟩ (fun _ => False)))
          case atStart => exact ⟨0, ⟨by have := H0.out; omega⟩, rfl, ⟨fun b h1 h2 => absurd h2 (by omega)⟩, HX⟩
          case round =>
            clear HX
            obtain ⟨y, HK3, rfl, HD2, HX⟩ := hrel
            obtain ⟨k2, rfl⟩ : ∃ k2, gk = k2 + 1 := ⟨((l.length : Int) - y).toNat, by have := HK3.out; have := H1.out; omega⟩
            have h2 : 0 ≤ y := HK3.out.2.1
            by_cases hy : y < x
            · have b2 : decide (y < x) = true := decide_eq_true hy
              have H2 := Aside0.mk h2
              have H3 := Aside0.mk hy
              have hwy : wrap64 (y + 1) = y + 1 := by have := HFT.out.1; have := H1.out; unfold wrap64; omega
              have p2_ := eq_true h2
              have q2_ : (y < (l.length : Int)) = True := eq_true (by have := H1.out; omega)
              clear h2 hy
              go_upto_region 11 with fail
              replace HX := Aside0.mk (HX.out.under (Below.refl _ _).drew)
              obtain ⟨ad, e, p0, p1, p2, p3, p4, p5, p6, p7, p8⟩ := at_T28 (Kd.C_below HR.out HX.out.below) x H0.out H1.out
              cases e
              obtain ⟨ad2, e, q0, q1, q2, q3, q4, q5, q6, q7, q8⟩ := at_T28 (Kd.C_below HR.out HX.out.below) y H2.out (of_eq_true q2_)
              cases e
              obtain ⟨ox, hox⟩ : ∃ o, (rd_T28 l x) = o := ⟨_, rfl⟩
              obtain ⟨oy, hoy⟩ : ∃ o, (rd_T28 l y) = o := ⟨_, rfl⟩
              rw [hox] at p0 p1 p2 p3 p4 p5 p6 p7 p8
              rw [hoy] at q0 q1 q2 q3 q4 q5 q6 q7 q8
              have HOX := Aside0.mk hox
              have HOY := Aside0.mk hoy
              clear hox hoy
              obtain ⟨kx, ⟨t1x, w1x⟩, ⟨t2x, w2x⟩, ⟨t3x, w3x⟩, nmx, vlx⟩ := ox
              obtain ⟨ky, ⟨t1y, w1y⟩, ⟨t2y, w2y⟩, ⟨t3y, w3y⟩, nmy, vly⟩ := oy
              dsimp only at p0 p1 p2 p3 p4 p5 p6 p7 p8 q0 q1 q2 q3 q4 q5 q6 q7 q8
              by_cases he : t1y = t1x ∧ w1y = w1x
              · obtain ⟨rfl, rfl⟩ := he
                by_cases hs : ky = kx ∧ t2y = t2x ∧ w2y = w2x ∧ t3y = t3x ∧ w3y = w3x ∧ nmy = nmx ∧ vly = vlx
                · obtain ⟨rfl, rfl, rfl, rfl, rfl, rfl, rfl⟩ := hs
                  have HNV := Aside0.mk (show ¬ viol l y x from fun hv => hv.2 (HOY.out.trans HOX.out.symm))
                  refine start_ (n := 22) (S := fun w' => w'.cell? (ad.add (y.toNat * 9)) = some (.int .i64 ky) ∧ w'.cell? ⟨(ad.add (y.toNat * 9)).block, (ad.add (y.toNat * 9)).off + 1, none⟩ = some (.int .i64 t1y) ∧ w'.cell? ⟨(ad.add (y.toNat * 9)).block, (ad.add (y.toNat * 9)).off + 2, none⟩ = some (.int .i64 w1y) ∧ w'.cell? ⟨(ad.add (y.toNat * 9)).block, (ad.add (y.toNat * 9)).off + 3, none⟩ = some (.int .i64 t2y) ∧ w'.cell? ⟨(ad.add (y.toNat * 9)).block, (ad.add (y.toNat * 9)).off + 4, none⟩ = some (.int .i64 w2y) ∧ w'.cell? ⟨(ad.add (y.toNat * 9)).block, (ad.add (y.toNat * 9)).off + 5, none⟩ = some (.int .i64 t3y) ∧ w'.cell? ⟨(ad.add (y.toNat * 9)).block, (ad.add (y.toNat * 9)).off + 6, none⟩ = some (.int .i64 w3y) ∧ w'.cell? ⟨(ad.add (y.toNat * 9)).block, (ad.add (y.toNat * 9)).off + 7, none⟩ = some (.string nmy) ∧ w'.cell? ⟨(ad.add (y.toNat * 9)).block, (ad.add (y.toNat * 9)).off + 8, none⟩ = some (.string vly) ∧ w'.cell? (ad.add (x.toNat * 9)) = some (.int .i64 ky) ∧ w'.cell? ⟨(ad.add (x.toNat * 9)).block, (ad.add (x.toNat * 9)).off + 1, none⟩ = some (.int .i64 t1y) ∧ w'.cell? ⟨(ad.add (x.toNat * 9)).block, (ad.add (x.toNat * 9)).off + 2, none⟩ = some (.int .i64 w1y) ∧ w'.cell? ⟨(ad.add (x.toNat * 9)).block, (ad.add (x.toNat * 9)).off + 3, none⟩ = some (.int .i64 t2y) ∧ w'.cell? ⟨(ad.add (x.toNat * 9)).block, (ad.add (x.toNat * 9)).off + 4, none⟩ = some (.int .i64 w2y) ∧ w'.cell? ⟨(ad.add (x.toNat * 9)).block, (ad.add (x.toNat * 9)).off + 5, none⟩ = some (.int .i64 t3y) ∧ w'.cell? ⟨(ad.add (x.toNat * 9)).block, (ad.add (x.toNat * 9)).off + 6, none⟩ = some (.int .i64 w3y) ∧ w'.cell? ⟨(ad.add (x.toNat * 9)).block, (ad.add (x.toNat * 9)).off + 7, none⟩ = some (.string nmy) ∧ w'.cell? ⟨(ad.add (x.toNat * 9)).block, (ad.add (x.toNat * 9)).off + 8, none⟩ = some (.string vly)) (ds := []) #[false, false, false, false, false, false, false, false, false, false, false, false, false, false, false, false, false, false, false, false, false, false] (by kernel_rfl) rfl rfl ⟨q0, q1, q2, q3, q4, q5, q6, q7, q8, p0, p1, p2, p3, p4, p5, p6, p7, p8⟩ (fun hHeld => ?_)
                  refine with_tabW orders_.tab11 orders_.bits11 (fun HT_ HW_ => ?_)
                  refine pure_ (i := 0) (N := some 59) (v := ?_) (a' := ?_) #[true, false, false, false, false, false, false, false, false, false, false, false, false, false, false, false, false, false, false, false, false, false] rfl rfl (any_of HT_.out (by kernel_rfl)) (fun _ _ _ h => h) (Or.inl ⟨by rfl, ?_⟩) ?_ ?_
                  rotate_left
                  · intro w'
                    go_simp
                    with_reducible rfl
                  rotate_left
                  · simp only [Act.put, List.setIfInBounds_toArray, List.set_cons_zero, List.set_cons_succ, i64_w, i32_w]
                    rfl
                  refine pure_ (i := 1) (N := some 60) (v := ?_) (a' := ?_) #[true, true, false, false, false, false, false, false, false, false, false, false, false, false, false, false, false, false, false, false, false, false] rfl rfl (any_of HT_.out (by kernel_rfl)) (fun _ _ _ h => h) (Or.inl ⟨by rfl, ?_⟩) ?_ ?_
                  rotate_left
                  · intro w'
                    go_simp
                    with_reducible rfl
                  rotate_left
                  · simp only [Act.put, List.setIfInBounds_toArray, List.set_cons_zero, List.set_cons_succ, i64_w, i32_w]
                    rfl
                  refine pure_ (i := 2) (N := some 61) (v := ?_) (a' := ?_) #[true, true, true, false, false, false, false, false, false, false, false, false, false, false, false, false, false, false, false, false, false, false] rfl rfl (any_of HT_.out (by kernel_rfl)) (fun _ _ _ h => h) (Or.inl ⟨by rfl, ?_⟩) ?_ ?_
                  rotate_left
                  · intro w'
                    go_simp
                    with_reducible rfl
                  rotate_left
                  · simp only [Act.put, List.setIfInBounds_toArray, List.set_cons_zero, List.set_cons_succ, i64_w, i32_w]
                    rfl
                  refine pure_ (i := 3) (N := some 62) (v := ?_) (a' := ?_) #[true, true, true, true, false, false, false, false, false, false, false, false, false, false, false, false, false, false, false, false, false, false] rfl rfl (any_of HT_.out (by kernel_rfl)) (fun _ _ _ h => h) (Or.inl ⟨by rfl, ?_⟩) ?_ ?_
                  rotate_left
                  · intro w'
                    go_simp
                    with_reducible rfl
                  rotate_left
                  · simp only [Act.put, List.setIfInBounds_toArray, List.set_cons_zero, List.set_cons_succ, i64_w, i32_w]
                    rfl
                  refine pure_ (i := 5) (N := some 64) (v := ?_) (a' := ?_) #[true, true, true, true, false, true, false, false, false, false, false, false, false, false, false, false, false, false, false, false, false, false] rfl rfl (any_of HT_.out (by kernel_rfl)) (fun _ _ _ h => h) (Or.inl ⟨by rfl, ?_⟩) ?_ ?_
                  rotate_left
                  · intro w'
                    go_simp
                    with_reducible rfl
                  rotate_left
                  · simp only [Act.put, List.setIfInBounds_toArray, List.set_cons_zero, List.set_cons_succ, i64_w, i32_w]
                    rfl
                  refine pure_ (i := 6) (N := some 65) (v := ?_) (a' := ?_) #[true, true, true, true, false, true, true, false, false, false, false, false, false, false, false, false, false, false, false, false, false, false] rfl rfl (any_of HT_.out (by kernel_rfl)) (fun _ _ _ h => h) (Or.inl ⟨by rfl, ?_⟩) ?_ ?_
                  rotate_left
                  · intro w'
                    go_simp
                    with_reducible rfl
                  rotate_left
                  · simp only [Act.put, List.setIfInBounds_toArray, List.set_cons_zero, List.set_cons_succ, i64_w, i32_w]
                    rfl
                  refine pure_ (i := 7) (N := some 66) (v := ?_) (a' := ?_) #[true, true, true, true, false, true, true, true, false, false, false, false, false, false, false, false, false, false, false, false, false, false] rfl rfl (any_of HT_.out (by kernel_rfl)) (fun _ _ _ h => h) (Or.inl ⟨by rfl, ?_⟩) ?_ ?_
                  rotate_left
                  · intro w'
                    go_simp
                    with_reducible rfl
                  rotate_left
                  · simp only [Act.put, List.setIfInBounds_toArray, List.set_cons_zero, List.set_cons_succ, i64_w, i32_w]
                    rfl
                  refine pure_ (i := 8) (N := some 67) (v := ?_) (a' := ?_) #[true, true, true, true, false, true, true, true, true, false, false, false, false, false, false, false, false, false, false, false, false, false] rfl rfl (any_of HT_.out (by kernel_rfl)) (fun _ _ _ h => h) (Or.inl ⟨by rfl, ?_⟩) ?_ ?_
                  rotate_left
                  · intro w'
                    go_simp
                    with_reducible rfl
                  rotate_left
                  · simp only [Act.put, List.setIfInBounds_toArray, List.set_cons_zero, List.set_cons_succ, i64_w, i32_w]
                    rfl
                  refine take_ (i := 4) (N := some 63) (v := ?_) (a' := ?_) #[true, true, true, true, true, true, true, true, true, false, false, false, false, false, false, false, false, false, false, false, false, false] rfl rfl (take_ofW HT_.out HW_.out (by kernel_rfl)) (fun _ _ _ h => h) (Or.inl ⟨by rfl, ?_⟩) hHeld ?_ ?_
                  rotate_left
                  · rintro w' ⟨s0, s1, s2, s3, s4, s5, s6, s7, s8, s9, s10, s11, s12, s13, s14, s15, s16, s17⟩
                    go_simp
                    with_reducible rfl
                  rotate_left
                  · simp only [Act.put, List.setIfInBounds_toArray, List.set_cons_zero, List.set_cons_succ, i64_w, i32_w]
                    rfl
                  refine take_ (i := 9) (N := some 68) (v := ?_) (a' := ?_) #[true, true, true, true, true, true, true, true, true, true, false, false, false, false, false, false, false, false, false, false, false, false] rfl rfl (take_ofW HT_.out HW_.out (by kernel_rfl)) (fun _ _ _ h => h) (Or.inl ⟨by rfl, ?_⟩) hHeld ?_ ?_
                  rotate_left
                  · rintro w' ⟨s0, s1, s2, s3, s4, s5, s6, s7, s8, s9, s10, s11, s12, s13, s14, s15, s16, s17⟩
                    go_simp
                    with_reducible rfl
                  rotate_left
                  · simp only [Act.put, List.setIfInBounds_toArray, List.set_cons_zero, List.set_cons_succ, i64_w, i32_w]
                    rfl
                  refine pure_ (i := 10) (N := some 69) (v := ?_) (a' := ?_) #[true, true, true, true, true, true, true, true, true, true, true, false, false, false, false, false, false, false, false, false, false, false] rfl rfl (any_of HT_.out (by kernel_rfl)) (fun _ _ _ h => h) (Or.inl ⟨by rfl, ?_⟩) ?_ ?_
                  rotate_left
                  · intro w'
                    go_simp
                    with_reducible rfl
                  rotate_left
                  · simp only [Act.put, List.setIfInBounds_toArray, List.set_cons_zero, List.set_cons_succ, i64_w, i32_w]
                    rfl
                  refine pure_ (i := 11) (N := some 70) (v := ?_) (a' := ?_) #[true, true, true, true, true, true, true, true, true, true, true, true, false, false, false, false, false, false, false, false, false, false] rfl rfl (any_of HT_.out (by kernel_rfl)) (fun _ _ _ h => h) (Or.inl ⟨by rfl, ?_⟩) ?_ ?_
                  rotate_left
                  · intro w'
                    go_simp
                    with_reducible rfl
                  rotate_left
                  · simp only [Act.put, List.setIfInBounds_toArray, List.set_cons_zero, List.set_cons_succ, i64_w, i32_w]
                    rfl
                  refine pure_ (i := 12) (N := some 71) (v := ?_) (a' := ?_) #[true, true, true, true, true, true, true, true, true, true, true, true, true, false, false, false, false, false, false, false, false, false] rfl rfl (any_of HT_.out (by kernel_rfl)) (fun _ _ _ h => h) (Or.inl ⟨by rfl, ?_⟩) ?_ ?_
                  rotate_left
                  · intro w'
                    go_simp
                    with_reducible rfl
                  rotate_left
                  · simp only [Act.put, List.setIfInBounds_toArray, List.set_cons_zero, List.set_cons_succ, i64_w, i32_w]
                    rfl
                  refine pure_ (i := 13) (N := some 72) (v := ?_) (a' := ?_) #[true, true, true, true, true, true, true, true, true, true, true, true, true, true, false, false, false, false, false, false, false, false] rfl rfl (any_of HT_.out (by kernel_rfl)) (fun _ _ _ h => h) (Or.inl ⟨by rfl, ?_⟩) ?_ ?_
                  rotate_left
                  · intro w'
                    go_simp
                    with_reducible rfl
                  rotate_left
                  · simp only [Act.put, List.setIfInBounds_toArray, List.set_cons_zero, List.set_cons_succ, i64_w, i32_w]
                    rfl
                  refine pure_ (i := 14) (N := some 73) (v := ?_) (a' := ?_) #[true, true, true, true, true, true, true, true, true, true, true, true, true, true, true, false, false, false, false, false, false, false] rfl rfl (any_of HT_.out (by kernel_rfl)) (fun _ _ _ h => h) (Or.inl ⟨by rfl, ?_⟩) ?_ ?_
                  rotate_left
                  · intro w'
                    go_simp
                    with_reducible rfl
                  rotate_left
                  · simp only [Act.put, List.setIfInBounds_toArray, List.set_cons_zero, List.set_cons_succ, i64_w, i32_w]
                    rfl
                  refine pure_ (i := 16) (N := some 75) (v := ?_) (a' := ?_) #[true, true, true, true, true, true, true, true, true, true, true, true, true, true, true, false, true, false, false, false, false, false] rfl rfl (any_of HT_.out (by kernel_rfl)) (fun _ _ _ h => h) (Or.inl ⟨by rfl, ?_⟩) ?_ ?_
                  rotate_left
                  · intro w'
                    go_simp
                    with_reducible rfl
                  rotate_left
                  · simp only [Act.put, List.setIfInBounds_toArray, List.set_cons_zero, List.set_cons_succ, i64_w, i32_w]
                    rfl
                  refine pure_ (i := 17) (N := some 76) (v := ?_) (a' := ?_) #[true, true, true, true, true, true, true, true, true, true, true, true, true, true, true, false, true, true, false, false, false, false] rfl rfl (any_of HT_.out (by kernel_rfl)) (fun _ _ _ h => h) (Or.inl ⟨by rfl, ?_⟩) ?_ ?_
                  rotate_left
                  · intro w'
                    go_simp
                    with_reducible rfl
                  rotate_left
                  · simp only [Act.put, List.setIfInBounds_toArray, List.set_cons_zero, List.set_cons_succ, i64_w, i32_w]
                    rfl
                  refine pure_ (i := 18) (N := some 77) (v := ?_) (a' := ?_) #[true, true, true, true, true, true, true, true, true, true, true, true, true, true, true, false, true, true, true, false, false, false] rfl rfl (any_of HT_.out (by kernel_rfl)) (fun _ _ _ h => h) (Or.inl ⟨by rfl, ?_⟩) ?_ ?_
                  rotate_left
                  · intro w'
                    go_simp
                    with_reducible rfl
                  rotate_left
                  · simp only [Act.put, List.setIfInBounds_toArray, List.set_cons_zero, List.set_cons_succ, i64_w, i32_w]
                    rfl
                  refine take_ (i := 15) (N := some 74) (v := ?_) (a' := ?_) #[true, true, true, true, true, true, true, true, true, true, true, true, true, true, true, true, true, true, true, false, false, false] rfl rfl (take_ofW HT_.out HW_.out (by kernel_rfl)) (fun _ _ _ h => h) (Or.inl ⟨by rfl, ?_⟩) hHeld ?_ ?_
                  rotate_left
                  · rintro w' ⟨s0, s1, s2, s3, s4, s5, s6, s7, s8, s9, s10, s11, s12, s13, s14, s15, s16, s17⟩
                    go_simp
                    with_reducible rfl
                  rotate_left
                  · simp only [Act.put, List.setIfInBounds_toArray, List.set_cons_zero, List.set_cons_succ, i64_w, i32_w]
                    rfl
                  refine take_ (i := 19) (N := some 78) (v := ?_) (a' := ?_) #[true, true, true, true, true, true, true, true, true, true, true, true, true, true, true, true, true, true, true, true, false, false] rfl rfl (take_ofW HT_.out HW_.out (by kernel_rfl)) (fun _ _ _ h => h) (Or.inl ⟨by rfl, ?_⟩) hHeld ?_ ?_
                  rotate_left
                  · rintro w' ⟨s0, s1, s2, s3, s4, s5, s6, s7, s8, s9, s10, s11, s12, s13, s14, s15, s16, s17⟩
                    go_simp
                    with_reducible rfl
                  rotate_left
                  · simp only [Act.put, List.setIfInBounds_toArray, List.set_cons_zero, List.set_cons_succ, i64_w, i32_w]
                    rfl
                  refine pure_ (i := 20) (N := some 79) (v := ?_) (a' := ?_) #[true, true, true, true, true, true, true, true, true, true, true, true, true, true, true, true, true, true, true, true, true, false] rfl rfl (any_of HT_.out (by kernel_rfl)) (fun _ _ _ h => h) (Or.inl ⟨by rfl, ?_⟩) ?_ ?_
                  rotate_left
                  · intro w'
                    go_simp
                    with_reducible rfl
                  rotate_left
                  · simp only [Act.put, List.setIfInBounds_toArray, List.set_cons_zero, List.set_cons_succ, i64_w, i32_w]
                    rfl
                  refine pure_ (i := 21) (N := some 80) (v := ?_) (a' := ?_) #[true, true, true, true, true, true, true, true, true, true, true, true, true, true, true, true, true, true, true, true, true, true] rfl rfl (any_of HT_.out (by kernel_rfl)) (fun _ _ _ h => h) (Or.inl ⟨by rfl, ?_⟩) ?_ ?_
                  rotate_left
                  · intro w'
                    go_simp
                    with_reducible rfl
                  rotate_left
                  · simp only [Act.put, List.setIfInBounds_toArray, List.set_cons_zero, List.set_cons_succ, i64_w, i32_w]
                    rfl
                  refine done_ (done_of HT_.out (by kernel_rfl)) ?_

                  clear p0 p1 p2 p3 p4 p5 p6 p7 p8 q0 q1 q2 q3 q4 q5 q6 q7 q8
                  go_wp2
                  go_roundg k2
                  case measure => exact Nat.lt_succ_self _
                  case rel => exact ⟨y + 1, ⟨or_k HK3.out H3.out⟩, (by first | rfl | rw [hwy]), ⟨or_next HD2.out HNV.out⟩, HX⟩
                · have hb : ((!(ky == kx)) || (((!(t2y == t2x)) || (!(w2y == w2x))) || (((!(t3y == t3x)) || (!(w3y == w3x))) || ((!(nmy.toList == nmx.toList)) || (!(vly.toList == vlx.toList)))))) = true := fc_true hs
                  clear hs
                  refine start_ (n := 22) (S := fun w' => w'.cell? (ad.add (y.toNat * 9)) = some (.int .i64 ky) ∧ w'.cell? ⟨(ad.add (y.toNat * 9)).block, (ad.add (y.toNat * 9)).off + 1, none⟩ = some (.int .i64 t1y) ∧ w'.cell? ⟨(ad.add (y.toNat * 9)).block, (ad.add (y.toNat * 9)).off + 2, none⟩ = some (.int .i64 w1y) ∧ w'.cell? ⟨(ad.add (y.toNat * 9)).block, (ad.add (y.toNat * 9)).off + 3, none⟩ = some (.int .i64 t2y) ∧ w'.cell? ⟨(ad.add (y.toNat * 9)).block, (ad.add (y.toNat * 9)).off + 4, none⟩ = some (.int .i64 w2y) ∧ w'.cell? ⟨(ad.add (y.toNat * 9)).block, (ad.add (y.toNat * 9)).off + 5, none⟩ = some (.int .i64 t3y) ∧ w'.cell? ⟨(ad.add (y.toNat * 9)).block, (ad.add (y.toNat * 9)).off + 6, none⟩ = some (.int .i64 w3y) ∧ w'.cell? ⟨(ad.add (y.toNat * 9)).block, (ad.add (y.toNat * 9)).off + 7, none⟩ = some (.string nmy) ∧ w'.cell? ⟨(ad.add (y.toNat * 9)).block, (ad.add (y.toNat * 9)).off + 8, none⟩ = some (.string vly) ∧ w'.cell? (ad.add (x.toNat * 9)) = some (.int .i64 kx) ∧ w'.cell? ⟨(ad.add (x.toNat * 9)).block, (ad.add (x.toNat * 9)).off + 1, none⟩ = some (.int .i64 t1y) ∧ w'.cell? ⟨(ad.add (x.toNat * 9)).block, (ad.add (x.toNat * 9)).off + 2, none⟩ = some (.int .i64 w1y) ∧ w'.cell? ⟨(ad.add (x.toNat * 9)).block, (ad.add (x.toNat * 9)).off + 3, none⟩ = some (.int .i64 t2x) ∧ w'.cell? ⟨(ad.add (x.toNat * 9)).block, (ad.add (x.toNat * 9)).off + 4, none⟩ = some (.int .i64 w2x) ∧ w'.cell? ⟨(ad.add (x.toNat * 9)).block, (ad.add (x.toNat * 9)).off + 5, none⟩ = some (.int .i64 t3x) ∧ w'.cell? ⟨(ad.add (x.toNat * 9)).block, (ad.add (x.toNat * 9)).off + 6, none⟩ = some (.int .i64 w3x) ∧ w'.cell? ⟨(ad.add (x.toNat * 9)).block, (ad.add (x.toNat * 9)).off + 7, none⟩ = some (.string nmx) ∧ w'.cell? ⟨(ad.add (x.toNat * 9)).block, (ad.add (x.toNat * 9)).off + 8, none⟩ = some (.string vlx)) (ds := []) #[false, false, false, false, false, false, false, false, false, false, false, false, false, false, false, false, false, false, false, false, false, false] (by kernel_rfl) rfl rfl ⟨q0, q1, q2, q3, q4, q5, q6, q7, q8, p0, p1, p2, p3, p4, p5, p6, p7, p8⟩ (fun hHeld => ?_)
                  refine with_tabW orders_.tab11 orders_.bits11 (fun HT_ HW_ => ?_)
                  refine pure_ (i := 0) (N := some 59) (v := ?_) (a' := ?_) #[true, false, false, false, false, false, false, false, false, false, false, false, false, false, false, false, false, false, false, false, false, false] rfl rfl (any_of HT_.out (by kernel_rfl)) (fun _ _ _ h => h) (Or.inl ⟨by rfl, ?_⟩) ?_ ?_
                  rotate_left
                  · intro w'
                    go_simp
                    with_reducible rfl
                  rotate_left
                  · simp only [Act.put, List.setIfInBounds_toArray, List.set_cons_zero, List.set_cons_succ, i64_w, i32_w]
                    rfl
                  refine pure_ (i := 1) (N := some 60) (v := ?_) (a' := ?_) #[true, true, false, false, false, false, false, false, false, false, false, false, false, false, false, false, false, false, false, false, false, false] rfl rfl (any_of HT_.out (by kernel_rfl)) (fun _ _ _ h => h) (Or.inl ⟨by rfl, ?_⟩) ?_ ?_
                  rotate_left
                  · intro w'
                    go_simp
                    with_reducible rfl
                  rotate_left
                  · simp only [Act.put, List.setIfInBounds_toArray, List.set_cons_zero, List.set_cons_succ, i64_w, i32_w]
                    rfl
                  refine pure_ (i := 2) (N := some 61) (v := ?_) (a' := ?_) #[true, true, true, false, false, false, false, false, false, false, false, false, false, false, false, false, false, false, false, false, false, false] rfl rfl (any_of HT_.out (by kernel_rfl)) (fun _ _ _ h => h) (Or.inl ⟨by rfl, ?_⟩) ?_ ?_
                  rotate_left
                  · intro w'
                    go_simp
                    with_reducible rfl
                  rotate_left
                  · simp only [Act.put, List.setIfInBounds_toArray, List.set_cons_zero, List.set_cons_succ, i64_w, i32_w]
                    rfl
                  refine pure_ (i := 3) (N := some 62) (v := ?_) (a' := ?_) #[true, true, true, true, false, false, false, false, false, false, false, false, false, false, false, false, false, false, false, false, false, false] rfl rfl (any_of HT_.out (by kernel_rfl)) (fun _ _ _ h => h) (Or.inl ⟨by rfl, ?_⟩) ?_ ?_
                  rotate_left
                  · intro w'
                    go_simp
                    with_reducible rfl
                  rotate_left
                  · simp only [Act.put, List.setIfInBounds_toArray, List.set_cons_zero, List.set_cons_succ, i64_w, i32_w]
                    rfl
                  refine pure_ (i := 5) (N := some 64) (v := ?_) (a' := ?_) #[true, true, true, true, false, true, false, false, false, false, false, false, false, false, false, false, false, false, false, false, false, false] rfl rfl (any_of HT_.out (by kernel_rfl)) (fun _ _ _ h => h) (Or.inl ⟨by rfl, ?_⟩) ?_ ?_
                  rotate_left
                  · intro w'
                    go_simp
                    with_reducible rfl
                  rotate_left
                  · simp only [Act.put, List.setIfInBounds_toArray, List.set_cons_zero, List.set_cons_succ, i64_w, i32_w]
                    rfl
                  refine pure_ (i := 6) (N := some 65) (v := ?_) (a' := ?_) #[true, true, true, true, false, true, true, false, false, false, false, false, false, false, false, false, false, false, false, false, false, false] rfl rfl (any_of HT_.out (by kernel_rfl)) (fun _ _ _ h => h) (Or.inl ⟨by rfl, ?_⟩) ?_ ?_
                  rotate_left
                  · intro w'
                    go_simp
                    with_reducible rfl
                  rotate_left
                  · simp only [Act.put, List.setIfInBounds_toArray, List.set_cons_zero, List.set_cons_succ, i64_w, i32_w]
                    rfl
                  refine pure_ (i := 7) (N := some 66) (v := ?_) (a' := ?_) #[true, true, true, true, false, true, true, true, false, false, false, false, false, false, false, false, false, false, false, false, false, false] rfl rfl (any_of HT_.out (by kernel_rfl)) (fun _ _ _ h => h) (Or.inl ⟨by rfl, ?_⟩) ?_ ?_
                  rotate_left
                  · intro w'
                    go_simp
                    with_reducible rfl
                  rotate_left
                  · simp only [Act.put, List.setIfInBounds_toArray, List.set_cons_zero, List.set_cons_succ, i64_w, i32_w]
                    rfl
                  refine pure_ (i := 8) (N := some 67) (v := ?_) (a' := ?_) #[true, true, true, true, false, true, true, true, true, false, false, false, false, false, false, false, false, false, false, false, false, false] rfl rfl (any_of HT_.out (by kernel_rfl)) (fun _ _ _ h => h) (Or.inl ⟨by rfl, ?_⟩) ?_ ?_
                  rotate_left
                  · intro w'
                    go_simp
                    with_reducible rfl
                  rotate_left
                  · simp only [Act.put, List.setIfInBounds_toArray, List.set_cons_zero, List.set_cons_succ, i64_w, i32_w]
                    rfl
                  refine take_ (i := 4) (N := some 63) (v := ?_) (a' := ?_) #[true, true, true, true, true, true, true, true, true, false, false, false, false, false, false, false, false, false, false, false, false, false] rfl rfl (take_ofW HT_.out HW_.out (by kernel_rfl)) (fun _ _ _ h => h) (Or.inl ⟨by rfl, ?_⟩) hHeld ?_ ?_
                  rotate_left
                  · rintro w' ⟨s0, s1, s2, s3, s4, s5, s6, s7, s8, s9, s10, s11, s12, s13, s14, s15, s16, s17⟩
                    go_simp
                    with_reducible rfl
                  rotate_left
                  · simp only [Act.put, List.setIfInBounds_toArray, List.set_cons_zero, List.set_cons_succ, i64_w, i32_w]
                    rfl
                  refine take_ (i := 9) (N := some 68) (v := ?_) (a' := ?_) #[true, true, true, true, true, true, true, true, true, true, false, false, false, false, false, false, false, false, false, false, false, false] rfl rfl (take_ofW HT_.out HW_.out (by kernel_rfl)) (fun _ _ _ h => h) (Or.inl ⟨by rfl, ?_⟩) hHeld ?_ ?_
                  rotate_left
                  · rintro w' ⟨s0, s1, s2, s3, s4, s5, s6, s7, s8, s9, s10, s11, s12, s13, s14, s15, s16, s17⟩
                    go_simp
                    with_reducible rfl
                  rotate_left
                  · simp only [Act.put, List.setIfInBounds_toArray, List.set_cons_zero, List.set_cons_succ, i64_w, i32_w]
                    rfl
                  refine pure_ (i := 10) (N := some 69) (v := ?_) (a' := ?_) #[true, true, true, true, true, true, true, true, true, true, true, false, false, false, false, false, false, false, false, false, false, false] rfl rfl (any_of HT_.out (by kernel_rfl)) (fun _ _ _ h => h) (Or.inl ⟨by rfl, ?_⟩) ?_ ?_
                  rotate_left
                  · intro w'
                    go_simp
                    with_reducible rfl
                  rotate_left
                  · simp only [Act.put, List.setIfInBounds_toArray, List.set_cons_zero, List.set_cons_succ, i64_w, i32_w]
                    rfl
                  refine pure_ (i := 11) (N := some 70) (v := ?_) (a' := ?_) #[true, true, true, true, true, true, true, true, true, true, true, true, false, false, false, false, false, false, false, false, false, false] rfl rfl (any_of HT_.out (by kernel_rfl)) (fun _ _ _ h => h) (Or.inl ⟨by rfl, ?_⟩) ?_ ?_
                  rotate_left
                  · intro w'
                    go_simp
                    with_reducible rfl
                  rotate_left
                  · simp only [Act.put, List.setIfInBounds_toArray, List.set_cons_zero, List.set_cons_succ, i64_w, i32_w]
                    rfl
                  refine pure_ (i := 12) (N := some 71) (v := ?_) (a' := ?_) #[true, true, true, true, true, true, true, true, true, true, true, true, true, false, false, false, false, false, false, false, false, false] rfl rfl (any_of HT_.out (by kernel_rfl)) (fun _ _ _ h => h) (Or.inl ⟨by rfl, ?_⟩) ?_ ?_
                  rotate_left
                  · intro w'
                    go_simp
                    with_reducible rfl
                  rotate_left
                  · simp only [Act.put, List.setIfInBounds_toArray, List.set_cons_zero, List.set_cons_succ, i64_w, i32_w]
                    rfl
                  refine pure_ (i := 13) (N := some 72) (v := ?_) (a' := ?_) #[true, true, true, true, true, true, true, true, true, true, true, true, true, true, false, false, false, false, false, false, false, false] rfl rfl (any_of HT_.out (by kernel_rfl)) (fun _ _ _ h => h) (Or.inl ⟨by rfl, ?_⟩) ?_ ?_
                  rotate_left
                  · intro w'
                    go_simp
                    with_reducible rfl
                  rotate_left
                  · simp only [Act.put, List.setIfInBounds_toArray, List.set_cons_zero, List.set_cons_succ, i64_w, i32_w]
                    rfl
                  refine pure_ (i := 14) (N := some 73) (v := ?_) (a' := ?_) #[true, true, true, true, true, true, true, true, true, true, true, true, true, true, true, false, false, false, false, false, false, false] rfl rfl (any_of HT_.out (by kernel_rfl)) (fun _ _ _ h => h) (Or.inl ⟨by rfl, ?_⟩) ?_ ?_
                  rotate_left
                  · intro w'
                    go_simp
                    with_reducible rfl
                  rotate_left
                  · simp only [Act.put, List.setIfInBounds_toArray, List.set_cons_zero, List.set_cons_succ, i64_w, i32_w]
                    rfl
                  refine pure_ (i := 16) (N := some 75) (v := ?_) (a' := ?_) #[true, true, true, true, true, true, true, true, true, true, true, true, true, true, true, false, true, false, false, false, false, false] rfl rfl (any_of HT_.out (by kernel_rfl)) (fun _ _ _ h => h) (Or.inl ⟨by rfl, ?_⟩) ?_ ?_
                  rotate_left
                  · intro w'
                    go_simp
                    with_reducible rfl
                  rotate_left
                  · simp only [Act.put, List.setIfInBounds_toArray, List.set_cons_zero, List.set_cons_succ, i64_w, i32_w]
                    rfl
                  refine pure_ (i := 17) (N := some 76) (v := ?_) (a' := ?_) #[true, true, true, true, true, true, true, true, true, true, true, true, true, true, true, false, true, true, false, false, false, false] rfl rfl (any_of HT_.out (by kernel_rfl)) (fun _ _ _ h => h) (Or.inl ⟨by rfl, ?_⟩) ?_ ?_
                  rotate_left
                  · intro w'
                    go_simp
                    with_reducible rfl
                  rotate_left
                  · simp only [Act.put, List.setIfInBounds_toArray, List.set_cons_zero, List.set_cons_succ, i64_w, i32_w]
                    rfl
                  refine pure_ (i := 18) (N := some 77) (v := ?_) (a' := ?_) #[true, true, true, true, true, true, true, true, true, true, true, true, true, true, true, false, true, true, true, false, false, false] rfl rfl (any_of HT_.out (by kernel_rfl)) (fun _ _ _ h => h) (Or.inl ⟨by rfl, ?_⟩) ?_ ?_
                  rotate_left
                  · intro w'
                    go_simp
                    with_reducible rfl
                  rotate_left
                  · simp only [Act.put, List.setIfInBounds_toArray, List.set_cons_zero, List.set_cons_succ, i64_w, i32_w]
                    rfl
                  refine take_ (i := 15) (N := some 74) (v := ?_) (a' := ?_) #[true, true, true, true, true, true, true, true, true, true, true, true, true, true, true, true, true, true, true, false, false, false] rfl rfl (take_ofW HT_.out HW_.out (by kernel_rfl)) (fun _ _ _ h => h) (Or.inl ⟨by rfl, ?_⟩) hHeld ?_ ?_
                  rotate_left
                  · rintro w' ⟨s0, s1, s2, s3, s4, s5, s6, s7, s8, s9, s10, s11, s12, s13, s14, s15, s16, s17⟩
                    go_simp
                    with_reducible rfl
                  rotate_left
                  · simp only [Act.put, List.setIfInBounds_toArray, List.set_cons_zero, List.set_cons_succ, i64_w, i32_w]
                    rfl
                  refine take_ (i := 19) (N := some 78) (v := ?_) (a' := ?_) #[true, true, true, true, true, true, true, true, true, true, true, true, true, true, true, true, true, true, true, true, false, false] rfl rfl (take_ofW HT_.out HW_.out (by kernel_rfl)) (fun _ _ _ h => h) (Or.inl ⟨by rfl, ?_⟩) hHeld ?_ ?_
                  rotate_left
                  · rintro w' ⟨s0, s1, s2, s3, s4, s5, s6, s7, s8, s9, s10, s11, s12, s13, s14, s15, s16, s17⟩
                    go_simp
                    with_reducible rfl
                  rotate_left
                  · simp only [Act.put, List.setIfInBounds_toArray, List.set_cons_zero, List.set_cons_succ, i64_w, i32_w]
                    rfl
                  refine pure_ (i := 20) (N := some 79) (v := ?_) (a' := ?_) #[true, true, true, true, true, true, true, true, true, true, true, true, true, true, true, true, true, true, true, true, true, false] rfl rfl (any_of HT_.out (by kernel_rfl)) (fun _ _ _ h => h) (Or.inl ⟨by rfl, ?_⟩) ?_ ?_
                  rotate_left
                  · intro w'
                    go_simp
                    with_reducible rfl
                  rotate_left
                  · simp only [Act.put, List.setIfInBounds_toArray, List.set_cons_zero, List.set_cons_succ, i64_w, i32_w]
                    rfl
                  refine pure_ (i := 21) (N := some 80) (v := ?_) (a' := ?_) #[true, true, true, true, true, true, true, true, true, true, true, true, true, true, true, true, true, true, true, true, true, true] rfl rfl (any_of HT_.out (by kernel_rfl)) (fun _ _ _ h => h) (Or.inl ⟨by rfl, ?_⟩) ?_ ?_
                  rotate_left
                  · intro w'
                    go_simp
                    with_reducible rfl
                  rotate_left
                  · simp only [Act.put, List.setIfInBounds_toArray, List.set_cons_zero, List.set_cons_succ, i64_w, i32_w]
                    rfl
                  refine done_ (done_of HT_.out (by kernel_rfl)) ?_

                  clear p0 p1 p2 p3 p4 p5 p6 p7 p8 q0 q1 q2 q3 q4 q5 q6 q7 q8
                  go_wp2_with (go_at_call 16; refine (awake_calls _ (HL.out.below HX.out.below)).mono ?_; rintro e w1 ⟨rfl, hb⟩; replace HX := Aside0.mk (HX.out.under hb); clear hb)
                  go_ret
                  exact ⟨rfl, HX.out.below⟩
              · have hb : (t1y == t1x && (w1y == w1x)) = false := by
                  cases h : (t1y == t1x && (w1y == w1x)) with
                  | false => rfl
                  | true => exact absurd (by simpa using h) he
                have HNV := Aside0.mk (show ¬ viol l y x from fun hv => he (by have := hv.1; rw [HOX.out, HOY.out] at this; cases this; exact ⟨rfl, rfl⟩))
                clear he
                refine start_ (n := 22) (S := fun w' => w'.cell? ⟨(ad.add (y.toNat * 9)).block, (ad.add (y.toNat * 9)).off + 1, none⟩ = some (.int .i64 t1y) ∧ w'.cell? ⟨(ad.add (y.toNat * 9)).block, (ad.add (y.toNat * 9)).off + 2, none⟩ = some (.int .i64 w1y) ∧ w'.cell? ⟨(ad.add (x.toNat * 9)).block, (ad.add (x.toNat * 9)).off + 1, none⟩ = some (.int .i64 t1x) ∧ w'.cell? ⟨(ad.add (x.toNat * 9)).block, (ad.add (x.toNat * 9)).off + 2, none⟩ = some (.int .i64 w1x)) (ds := []) #[false, false, false, false, false, false, false, false, false, false, false, false, false, false, false, false, false, false, false, false, false, false] (by kernel_rfl) rfl rfl ⟨q1, q2, p1, p2⟩ (fun hHeld => ?_)
                refine with_tabW orders_.tab11 orders_.bits11 (fun HT_ HW_ => ?_)
                refine pure_ (i := 0) (N := some 59) (v := ?_) (a' := ?_) #[true, false, false, false, false, false, false, false, false, false, false, false, false, false, false, false, false, false, false, false, false, false] rfl rfl (any_of HT_.out (by kernel_rfl)) (fun _ _ _ h => h) (Or.inl ⟨by rfl, ?_⟩) ?_ ?_
                rotate_left
                · intro w'
                  go_simp
                  with_reducible rfl
                rotate_left
                · simp only [Act.put, List.setIfInBounds_toArray, List.set_cons_zero, List.set_cons_succ, i64_w, i32_w]
                  rfl
                refine pure_ (i := 1) (N := some 60) (v := ?_) (a' := ?_) #[true, true, false, false, false, false, false, false, false, false, false, false, false, false, false, false, false, false, false, false, false, false] rfl rfl (any_of HT_.out (by kernel_rfl)) (fun _ _ _ h => h) (Or.inl ⟨by rfl, ?_⟩) ?_ ?_
                rotate_left
                · intro w'
                  go_simp
                  with_reducible rfl
                rotate_left
                · simp only [Act.put, List.setIfInBounds_toArray, List.set_cons_zero, List.set_cons_succ, i64_w, i32_w]
                  rfl
                refine pure_ (i := 2) (N := some 61) (v := ?_) (a' := ?_) #[true, true, true, false, false, false, false, false, false, false, false, false, false, false, false, false, false, false, false, false, false, false] rfl rfl (any_of HT_.out (by kernel_rfl)) (fun _ _ _ h => h) (Or.inl ⟨by rfl, ?_⟩) ?_ ?_
                rotate_left
                · intro w'
                  go_simp
                  with_reducible rfl
                rotate_left
                · simp only [Act.put, List.setIfInBounds_toArray, List.set_cons_zero, List.set_cons_succ, i64_w, i32_w]
                  rfl
                refine pure_ (i := 3) (N := some 62) (v := ?_) (a' := ?_) #[true, true, true, true, false, false, false, false, false, false, false, false, false, false, false, false, false, false, false, false, false, false] rfl rfl (any_of HT_.out (by kernel_rfl)) (fun _ _ _ h => h) (Or.inl ⟨by rfl, ?_⟩) ?_ ?_
                rotate_left
                · intro w'
                  go_simp
                  with_reducible rfl
                rotate_left
                · simp only [Act.put, List.setIfInBounds_toArray, List.set_cons_zero, List.set_cons_succ, i64_w, i32_w]
                  rfl
                refine pure_ (i := 5) (N := some 64) (v := ?_) (a' := ?_) #[true, true, true, true, false, true, false, false, false, false, false, false, false, false, false, false, false, false, false, false, false, false] rfl rfl (any_of HT_.out (by kernel_rfl)) (fun _ _ _ h => h) (Or.inl ⟨by rfl, ?_⟩) ?_ ?_
                rotate_left
                · intro w'
                  go_simp
                  with_reducible rfl
                rotate_left
                · simp only [Act.put, List.setIfInBounds_toArray, List.set_cons_zero, List.set_cons_succ, i64_w, i32_w]
                  rfl
                refine pure_ (i := 6) (N := some 65) (v := ?_) (a' := ?_) #[true, true, true, true, false, true, true, false, false, false, false, false, false, false, false, false, false, false, false, false, false, false] rfl rfl (any_of HT_.out (by kernel_rfl)) (fun _ _ _ h => h) (Or.inl ⟨by rfl, ?_⟩) ?_ ?_
                rotate_left
                · intro w'
                  go_simp
                  with_reducible rfl
                rotate_left
                · simp only [Act.put, List.setIfInBounds_toArray, List.set_cons_zero, List.set_cons_succ, i64_w, i32_w]
                  rfl
                refine pure_ (i := 7) (N := some 66) (v := ?_) (a' := ?_) #[true, true, true, true, false, true, true, true, false, false, false, false, false, false, false, false, false, false, false, false, false, false] rfl rfl (any_of HT_.out (by kernel_rfl)) (fun _ _ _ h => h) (Or.inl ⟨by rfl, ?_⟩) ?_ ?_
                rotate_left
                · intro w'
                  go_simp
                  with_reducible rfl
                rotate_left
                · simp only [Act.put, List.setIfInBounds_toArray, List.set_cons_zero, List.set_cons_succ, i64_w, i32_w]
                  rfl
                refine pure_ (i := 8) (N := some 67) (v := ?_) (a' := ?_) #[true, true, true, true, false, true, true, true, true, false, false, false, false, false, false, false, false, false, false, false, false, false] rfl rfl (any_of HT_.out (by kernel_rfl)) (fun _ _ _ h => h) (Or.inl ⟨by rfl, ?_⟩) ?_ ?_
                rotate_left
                · intro w'
                  go_simp
                  with_reducible rfl
                rotate_left
                · simp only [Act.put, List.setIfInBounds_toArray, List.set_cons_zero, List.set_cons_succ, i64_w, i32_w]
                  rfl
                refine take_ (i := 4) (N := some 63) (v := ?_) (a' := ?_) #[true, true, true, true, true, true, true, true, true, false, false, false, false, false, false, false, false, false, false, false, false, false] rfl rfl (take_ofW HT_.out HW_.out (by kernel_rfl)) (fun _ _ _ h => h) (Or.inl ⟨by rfl, ?_⟩) hHeld ?_ ?_
                rotate_left
                · rintro w' ⟨s0, s1, s2, s3⟩
                  go_simp
                  with_reducible rfl
                rotate_left
                · simp only [Act.put, List.setIfInBounds_toArray, List.set_cons_zero, List.set_cons_succ, i64_w, i32_w]
                  rfl
                refine take_ (i := 9) (N := some 68) (v := ?_) (a' := ?_) #[true, true, true, true, true, true, true, true, true, true, false, false, false, false, false, false, false, false, false, false, false, false] rfl rfl (take_ofW HT_.out HW_.out (by kernel_rfl)) (fun _ _ _ h => h) (Or.inl ⟨by rfl, ?_⟩) hHeld ?_ ?_
                rotate_left
                · rintro w' ⟨s0, s1, s2, s3⟩
                  go_simp
                  with_reducible rfl
                rotate_left
                · simp only [Act.put, List.setIfInBounds_toArray, List.set_cons_zero, List.set_cons_succ, i64_w, i32_w]
                  rfl
                refine pure_ (i := 10) (N := some 69) (v := ?_) (a' := ?_) #[true, true, true, true, true, true, true, true, true, true, true, false, false, false, false, false, false, false, false, false, false, false] rfl rfl (any_of HT_.out (by kernel_rfl)) (fun _ _ _ h => h) (Or.inl ⟨by rfl, ?_⟩) ?_ ?_
                rotate_left
                · intro w'
                  go_simp
                  with_reducible rfl
                rotate_left
                · simp only [Act.put, List.setIfInBounds_toArray, List.set_cons_zero, List.set_cons_succ, i64_w, i32_w]
                  rfl
                refine pure_ (i := 11) (N := some 70) (v := ?_) (a' := ?_) #[true, true, true, true, true, true, true, true, true, true, true, true, false, false, false, false, false, false, false, false, false, false] rfl rfl (any_of HT_.out (by kernel_rfl)) (fun _ _ _ h => h) (Or.inl ⟨by rfl, ?_⟩) ?_ ?_
                rotate_left
                · intro w'
                  go_simp
                  with_reducible rfl
                rotate_left
                · simp only [Act.put, List.setIfInBounds_toArray, List.set_cons_zero, List.set_cons_succ, i64_w, i32_w]
                  rfl
                refine pure_ (i := 12) (N := some 71) (v := undef) (a' := ?_) #[true, true, true, true, true, true, true, true, true, true, true, true, true, false, false, false, false, false, false, false, false, false] rfl rfl (any_of HT_.out (by kernel_rfl)) (fun _ _ _ h => h) (Or.inr ⟨by rfl, rfl⟩) ?_ ?_
                rotate_left
                · simp only [Act.put, List.setIfInBounds_toArray, List.set_cons_zero, List.set_cons_succ, i64_w, i32_w]
                  rfl
                refine pure_ (i := 13) (N := some 72) (v := undef) (a' := ?_) #[true, true, true, true, true, true, true, true, true, true, true, true, true, true, false, false, false, false, false, false, false, false] rfl rfl (any_of HT_.out (by kernel_rfl)) (fun _ _ _ h => h) (Or.inr ⟨by rfl, rfl⟩) ?_ ?_
                rotate_left
                · simp only [Act.put, List.setIfInBounds_toArray, List.set_cons_zero, List.set_cons_succ, i64_w, i32_w]
                  rfl
                refine pure_ (i := 14) (N := some 73) (v := undef) (a' := ?_) #[true, true, true, true, true, true, true, true, true, true, true, true, true, true, true, false, false, false, false, false, false, false] rfl rfl (any_of HT_.out (by kernel_rfl)) (fun _ _ _ h => h) (Or.inr ⟨by rfl, rfl⟩) ?_ ?_
                rotate_left
                · simp only [Act.put, List.setIfInBounds_toArray, List.set_cons_zero, List.set_cons_succ, i64_w, i32_w]
                  rfl
                refine pure_ (i := 15) (N := some 74) (v := undef) (a' := ?_) #[true, true, true, true, true, true, true, true, true, true, true, true, true, true, true, true, false, false, false, false, false, false] rfl rfl (any_of HT_.out (by kernel_rfl)) (fun _ _ _ h => h) (Or.inr ⟨by rfl, rfl⟩) ?_ ?_
                rotate_left
                · simp only [Act.put, List.setIfInBounds_toArray, List.set_cons_zero, List.set_cons_succ, i64_w, i32_w]
                  rfl
                refine pure_ (i := 16) (N := some 75) (v := undef) (a' := ?_) #[true, true, true, true, true, true, true, true, true, true, true, true, true, true, true, true, true, false, false, false, false, false] rfl rfl (any_of HT_.out (by kernel_rfl)) (fun _ _ _ h => h) (Or.inr ⟨by rfl, rfl⟩) ?_ ?_
                rotate_left
                · simp only [Act.put, List.setIfInBounds_toArray, List.set_cons_zero, List.set_cons_succ, i64_w, i32_w]
                  rfl
                refine pure_ (i := 17) (N := some 76) (v := undef) (a' := ?_) #[true, true, true, true, true, true, true, true, true, true, true, true, true, true, true, true, true, true, false, false, false, false] rfl rfl (any_of HT_.out (by kernel_rfl)) (fun _ _ _ h => h) (Or.inr ⟨by rfl, rfl⟩) ?_ ?_
                rotate_left
                · simp only [Act.put, List.setIfInBounds_toArray, List.set_cons_zero, List.set_cons_succ, i64_w, i32_w]
                  rfl
                refine pure_ (i := 18) (N := some 77) (v := undef) (a' := ?_) #[true, true, true, true, true, true, true, true, true, true, true, true, true, true, true, true, true, true, true, false, false, false] rfl rfl (any_of HT_.out (by kernel_rfl)) (fun _ _ _ h => h) (Or.inr ⟨by rfl, rfl⟩) ?_ ?_
                rotate_left
                · simp only [Act.put, List.setIfInBounds_toArray, List.set_cons_zero, List.set_cons_succ, i64_w, i32_w]
                  rfl
                refine pure_ (i := 19) (N := some 78) (v := undef) (a' := ?_) #[true, true, true, true, true, true, true, true, true, true, true, true, true, true, true, true, true, true, true, true, false, false] rfl rfl (any_of HT_.out (by kernel_rfl)) (fun _ _ _ h => h) (Or.inr ⟨by rfl, rfl⟩) ?_ ?_
                rotate_left
                · simp only [Act.put, List.setIfInBounds_toArray, List.set_cons_zero, List.set_cons_succ, i64_w, i32_w]
                  rfl
                refine pure_ (i := 20) (N := some 79) (v := undef) (a' := ?_) #[true, true, true, true, true, true, true, true, true, true, true, true, true, true, true, true, true, true, true, true, true, false] rfl rfl (any_of HT_.out (by kernel_rfl)) (fun _ _ _ h => h) (Or.inr ⟨by rfl, rfl⟩) ?_ ?_
                rotate_left
                · simp only [Act.put, List.setIfInBounds_toArray, List.set_cons_zero, List.set_cons_succ, i64_w, i32_w]
                  rfl
                refine pure_ (i := 21) (N := some 80) (v := ?_) (a' := ?_) #[true, true, true, true, true, true, true, true, true, true, true, true, true, true, true, true, true, true, true, true, true, true] rfl rfl (any_of HT_.out (by kernel_rfl)) (fun _ _ _ h => h) (Or.inl ⟨by rfl, ?_⟩) ?_ ?_
                rotate_left
                · intro w'
                  go_simp
                  with_reducible rfl
                rotate_left
                · simp only [Act.put, List.setIfInBounds_toArray, List.set_cons_zero, List.set_cons_succ, i64_w, i32_w]
                  rfl
                refine done_ (done_of HT_.out (by kernel_rfl)) ?_

                clear p0 p1 p2 p3 p4 p5 p6 p7 p8 q0 q1 q2 q3 q4 q5 q6 q7 q8
                go_wp2
                go_roundg k2
                case measure => exact Nat.lt_succ_self _
                case rel => exact ⟨y + 1, ⟨or_k HK3.out H3.out⟩, (by first | rfl | rw [hwy]), ⟨or_next HD2.out HNV.out⟩, HX⟩
            · have b2 : decide (y < x) = false := decide_eq_false hy
              have HEQ := Aside0.mk (show y = x by have := HK3.out; omega)
              clear hy h2
              go_wp2
              go_roundg k1
              case measure => exact Nat.lt_succ_self _
              case rel => exact ⟨x + 1, ⟨rt_k HK.out H1.out⟩, (by first | rfl | rw [hw1]), ⟨or_all HD.out (by have := HD2.out; rwa [HEQ.out] at this)⟩, HX⟩
        · have b1 : decide (x < (l.length : Int)) = false := decide_eq_false hx
          have HONE := Aside0.mk (one_each (l := l) (fun a b h1 h2 h3 => HD.out a b h1 h2 (by have := HK.out; omega)))
          clear hx h0
          go_wp2_with fail
          try go_frame
          obtain ⟨t, ht, et⟩ : ∃ t : Nat, t < 256 ∧ bits .and .i64 turn 255 = (t : Int) := ⟨(turn % 256).toNat, by omega, by rw [bits_and255]; omega⟩
          have HT256 := Aside0.mk ht
          clear ht
          go_loopg [11] (l.length + 1) (fun kq p wr => ∃ (x : Int) (vA vB vC : Value) (TA TB TC : Tr), Aside0 ((kq : Int) + x = (l.length : Int) + 1 ∧ 0 ≤ x ∧ x ≤ (l.length : Int)) ∧ p = .int .i64 x ∧ Aside0 (Three w wr l gA fA nA vA TA (PA l x) gB fB nB vB TB (PB l t x) gC fC nC vC TC (PC l x)))
          case atStart => exact ⟨0, _, _, _, _, _, _, ⟨by omega⟩, rfl, ⟨HX.out.congr (PA_zero l) (PB_zero l t) (PC_zero l)⟩⟩
          case round =>
            clear HX HK HD
            obtain ⟨x, vA, vB, vC, TA, TB, TC, HK, rfl, HX⟩ := hrel
            obtain ⟨k1, rfl⟩ : ∃ k1, gk = k1 + 1 := ⟨((l.length : Int) - x).toNat, by have := HK.out; omega⟩
            have h0 : 0 ≤ x := HK.out.2.1
            by_cases hx : x < (l.length : Int)
            · have b1 : decide (x < (l.length : Int)) = true := decide_eq_true hx
              have H0 := Aside0.mk h0
              have H1 := Aside0.mk hx
              obtain ⟨hw1, y, z, n1, ey1, ey2, hy0, hy1, hyd, en1, ez, hz0, hz1, hzd⟩ := or_index (t := t) h0 hx HFT.out.1 HT256.out
              have HY := Aside0.mk hyd
              have HZ := Aside0.mk hzd
              have p1_ := eq_true h0
              have q1_ := eq_true hx
              have p2_ := eq_true hy0
              have q2_ := eq_true hy1
              have p3_ := eq_true hz0
              have q3_ := eq_true hz1
              have n2_ : ((l.length : Int) = 0) = False := eq_false (by omega)
              have n3_ : (l.length = 0) = False := eq_false (by omega)
              have n4_ : (l = []) = False := eq_false (fun e => by rw [e] at hx; simp at hx; omega)
              clear hx h0 hy0 hy1 hz0 hz1 hyd hzd
              obtain ⟨ad, e, p0, p1, p2, p3, p4, p5, p6, p7, p8⟩ := at_T28 (Kd.C_below HR.out HX.out.below) x H0.out H1.out; cases e
              go_upto_region 17 with (go_at_call 14; refine (Apply_calls _ _ gA fA nA _ _ (rd_T28 l x) 40 _ HX.out.a HX.out.ca.fresh.good (chk_is (rd_T28 l x) (rd_small HFT.out.2 x)).1 (fun e => ((chk_is (rd_T28 l x) (rd_small HFT.out.2 x)).2 e).1) (HL.out.below HX.out.below)).mono ?_; rintro e w' ⟨TA', vA', rfl, ht, hg, h1, h2, h3, h4, h5⟩; replace HX := Aside0.mk ((HX.out.stepA ht (HX.out.ca.step (PA_sub H1.out) HONE.out (Nat.le_trans HFT.out.1 (by decide)) (PA_mem H0.out H1.out) (chk_is (rd_T28 l x) (rd_small HFT.out.2 x)).2 hg h1 h2 h3) h4 h5).rot); clear ht hg h1 h2 h3 h4 h5)
              clear p0 p1 p2 p3 p4 p5 p6 p7 p8
              obtain ⟨ad, e, p0, p1, p2, p3, p4, p5, p6, p7, p8⟩ := at_T28 (Kd.C_below HR.out HX.out.below) y (of_eq_true p2_) (of_eq_true q2_); cases e
              go_upto_region 18 with (go_at_call 14; refine (Apply_calls _ _ gB fB nB _ _ (rd_T28 l y) 40 _ HX.out.a HX.out.ca.fresh.good (chk_is (rd_T28 l y) (rd_small HFT.out.2 y)).1 (fun e => ((chk_is (rd_T28 l y) (rd_small HFT.out.2 y)).2 e).1) (HL.out.below HX.out.below)).mono ?_; rintro e w' ⟨TB', vB', rfl, ht, hg, h1, h2, h3, h4, h5⟩; replace HX := Aside0.mk ((HX.out.stepA ht (HX.out.ca.step (PB_sub H1.out) HONE.out (Nat.le_trans HFT.out.1 (by decide)) (PA_mem (of_eq_true p2_) (of_eq_true q2_)) (chk_is (rd_T28 l y) (rd_small HFT.out.2 y)).2 hg h1 h2 h3) h4 h5).rot); clear ht hg h1 h2 h3 h4 h5)
              clear p0 p1 p2 p3 p4 p5 p6 p7 p8
              obtain ⟨ad, e, p0, p1, p2, p3, p4, p5, p6, p7, p8⟩ := at_T28 (Kd.C_below HR.out HX.out.below) z (of_eq_true p3_) (of_eq_true q3_); cases e
              go_upto_region 19 with (go_at_call 14; refine (Apply_calls _ _ gC fC nC _ _ (rd_T28 l z) 40 _ HX.out.a HX.out.ca.fresh.good (chk_is (rd_T28 l z) (rd_small HFT.out.2 z)).1 (fun e => ((chk_is (rd_T28 l z) (rd_small HFT.out.2 z)).2 e).1) (HL.out.below HX.out.below)).mono ?_; rintro e w' ⟨TC', vC', rfl, ht, hg, h1, h2, h3, h4, h5⟩; replace HX := Aside0.mk ((HX.out.stepA ht (HX.out.ca.step (PC_sub H1.out) HONE.out (Nat.le_trans HFT.out.1 (by decide)) (PA_mem (of_eq_true p3_) (of_eq_true q3_)) (chk_is (rd_T28 l z) (rd_small HFT.out.2 z)).2 hg h1 h2 h3) h4 h5)); clear ht hg h1 h2 h3 h4 h5)
              clear p0 p1 p2 p3 p4 p5 p6 p7 p8
              obtain ⟨ad, e, p0, p1, p2, p3, p4, p5, p6, p7, p8⟩ := at_T28 (Kd.C_below HR.out HX.out.below) z (of_eq_true p3_) (of_eq_true q3_); cases e
              go_wp2_with (go_at_call 14; refine (Apply_calls _ _ gC fC nC _ _ (rd_T28 l z) 40 _ HX.out.a HX.out.ca.fresh.good (chk_is (rd_T28 l z) (rd_small HFT.out.2 z)).1 (fun e => ((chk_is (rd_T28 l z) (rd_small HFT.out.2 z)).2 e).1) (HL.out.below HX.out.below)).mono ?_; rintro e w' ⟨TC2, vC2, rfl, ht, hg, h1, h2, h3, h4, h5⟩; replace HX := Aside0.mk ((HX.out.stepA ht (HX.out.ca.step (fun o ho => ho.elim (fun e => e ▸ PA_mem (of_eq_true p3_) (of_eq_true q3_)) (PC_sub H1.out o)) HONE.out (Nat.le_trans HFT.out.1 (by decide)) (PA_mem (of_eq_true p3_) (of_eq_true q3_)) (chk_is (rd_T28 l z) (rd_small HFT.out.2 z)).2 hg h1 h2 h3) h4 h5).rot); clear ht hg h1 h2 h3 h4 h5)
              go_roundg k1
              case measure => exact Nat.lt_succ_self _
              case rel => exact ⟨x + 1, vA', vB', vC2, TA', TB', TC2, ⟨rt_k HK.out H1.out⟩, (by first | rfl | rw [hw1]), ⟨HX.out.congr (PA_next H0.out) (PB_next H0.out HY.out) (PC_next2 H0.out HZ.out)⟩⟩
            · have b1 : decide (x < (l.length : Int)) = false := decide_eq_false hx
              have hxe : x = (l.length : Int) := by have := HK.out; omega
              have HAB := Aside0.mk (HX.out.ca.same HX.out.cb (fun o => by rw [hxe]; exact (PA_all o).trans (PB_all t o).symm))
              have HAC := Aside0.mk (HX.out.ca.same HX.out.cc (fun o => by rw [hxe]; exact (PA_all o).trans (PC_all o).symm))
              have HOL := Aside0.mk (show TA.ops.length ≤ 512 ∧ TB.ops.length ≤ 512 ∧ TC.ops.length ≤ 512 from ⟨HX.out.ca.fresh.good.len, HX.out.cb.fresh.good.len, HX.out.cc.fresh.good.len⟩)
              have K0 := Aside0.mk (show (0 : Nat) = 0 from rfl)
              clear hx h0 hxe
              go_wp2_with (first
                | (go_at_call 16; clear K12; refine (awake_calls _ (HL.out.below HX.out.below)).mono ?_; rintro e w1 ⟨rfl, hb⟩; replace HX := Aside0.mk (HX.out.under hb); clear hb)
                | (go_at_call 28; clear K0; refine (Nodes_calls _ _ gA fA nA vA TA HX.out.a (Nat.le_trans (now_len HX.out.ca.fresh.good) (by decide))).mono ?_; rintro e w' ⟨v_, l1, rfl, hp, ho, hn, hb⟩; replace HX := Aside0.mk (HX.out.under hb); have HP1 := Aside0.mk hp; have HO1 := Aside0.mk ho; obtain ⟨B1, hn1⟩ : ∃ B1, NodesAt _ B1 _ _ := ⟨_, hn⟩; obtain ⟨A1, c1, rfl, hc1, hC1⟩ := hn1.reads; have HN1 := Aside0.mk hn1; clear hp ho hn hn1 hb hC1 hc1; have K1 := Aside0.mk (show (0 : Nat) = 0 from rfl))
                | (go_at_call 28; clear K1; refine (Nodes_calls _ _ gB fB nB vB TB HX.out.b (Nat.le_trans (now_len HX.out.cb.fresh.good) (by decide))).mono ?_; rintro e w' ⟨v_, l2, rfl, hp, ho, hn, hb⟩; replace HX := Aside0.mk (HX.out.under hb); have HP2 := Aside0.mk hp; have HO2 := Aside0.mk ho; obtain ⟨B2, hn1⟩ : ∃ B1, NodesAt _ B1 _ _ := ⟨_, hn⟩; obtain ⟨A2, c2, rfl, hc1, hC1⟩ := hn1.reads; have HN2 := Aside0.mk hn1; replace HN1 := Aside0.mk (HN1.out.below hb); clear hp ho hn hn1 hb hC1 hc1; have K2 := Aside0.mk (show (0 : Nat) = 0 from rfl))
                | (go_at_call 27; clear K2; have he_ : l1 = l2 := ord_ext HP1.out (by rw [HAB.out.2]; exact HP2.out) HO1.out HO2.out (now_nodup HX.out.ca.fresh.good); obtain ⟨ks, hks⟩ := sameNodes_self l1 (by rw [HP1.out.length_eq]; exact Nat.le_trans (now_len HX.out.ca.fresh.good) (by decide)); have hks2 : samphireref11_SameNodes.f ks l1 l2 = some true := (by rw [← he_]; exact hks); refine (samphireref11_SameNodes.calls ks A1 c1 l1 A2 c2 l2 true _ HN1.out.readsA.2 HN1.out.readsA.1 HN2.out.readsA.2 HN2.out.readsA.1 hks2).mono ?_; rintro e w' ⟨rfl, hd⟩; replace HX := Aside0.mk (HX.out.under hd.below); clear he_ hks hks2 hd; have K3 := Aside0.mk (show (0 : Nat) = 0 from rfl))
                | (go_at_call 28; clear K3; refine (Nodes_calls _ _ gA fA nA vA TA HX.out.a (Nat.le_trans (now_len HX.out.ca.fresh.good) (by decide))).mono ?_; rintro e w' ⟨v_, l3, rfl, hp, ho, hn, hb⟩; replace HX := Aside0.mk (HX.out.under hb); have HP3 := Aside0.mk hp; have HO3 := Aside0.mk ho; obtain ⟨B3, hn1⟩ : ∃ B1, NodesAt _ B1 _ _ := ⟨_, hn⟩; obtain ⟨A3, c3, rfl, hc1, hC1⟩ := hn1.reads; have HN3 := Aside0.mk hn1; clear hp ho hn hn1 hb hC1 hc1; have K4 := Aside0.mk (show (0 : Nat) = 0 from rfl))
                | (go_at_call 28; clear K4; refine (Nodes_calls _ _ gC fC nC vC TC HX.out.c (Nat.le_trans (now_len HX.out.cc.fresh.good) (by decide))).mono ?_; rintro e w' ⟨v_, l4, rfl, hp, ho, hn, hb⟩; replace HX := Aside0.mk (HX.out.under hb); have HP4 := Aside0.mk hp; have HO4 := Aside0.mk ho; obtain ⟨B4, hn1⟩ : ∃ B1, NodesAt _ B1 _ _ := ⟨_, hn⟩; obtain ⟨A4, c4, rfl, hc1, hC1⟩ := hn1.reads; have HN4 := Aside0.mk hn1; replace HN3 := Aside0.mk (HN3.out.below hb); clear hp ho hn hn1 hb hC1 hc1; have K5 := Aside0.mk (show (0 : Nat) = 0 from rfl))
                | (go_at_call 27; clear K5; have he_ : l3 = l4 := ord_ext HP3.out (by rw [HAC.out.2]; exact HP4.out) HO3.out HO4.out (now_nodup HX.out.ca.fresh.good); obtain ⟨ks, hks⟩ := sameNodes_self l3 (by rw [HP3.out.length_eq]; exact Nat.le_trans (now_len HX.out.ca.fresh.good) (by decide)); have hks2 : samphireref11_SameNodes.f ks l3 l4 = some true := (by rw [← he_]; exact hks); refine (samphireref11_SameNodes.calls ks A3 c3 l3 A4 c4 l4 true _ HN3.out.readsA.2 HN3.out.readsA.1 HN4.out.readsA.2 HN4.out.readsA.1 hks2).mono ?_; rintro e w' ⟨rfl, hd⟩; replace HX := Aside0.mk (HX.out.under hd.below); clear he_ hks hks2 hd; have K6 := Aside0.mk (show (0 : Nat) = 0 from rfl))
                | (go_at_call 17; clear K6; refine (Ops_calls _ _ gA fA nA vA TA HX.out.a (Nat.le_trans HOL.out.1 (by decide))).mono ?_; rintro e w' ⟨v_, rfl, ho, hb⟩; replace HX := Aside0.mk (HX.out.under hb); obtain ⟨Q1, d1, rfl, hc1, hC1⟩ := Kd.R_reads ho; have HC1 := Aside0.mk hC1; have HD1 := Aside0.mk hc1; clear ho hb hC1 hc1; have K7 := Aside0.mk (show (0 : Nat) = 0 from rfl))
                | (go_at_call 17; clear K7; refine (Ops_calls _ _ gB fB nB vB TB HX.out.b (Nat.le_trans HOL.out.2.1 (by decide))).mono ?_; rintro e w' ⟨v_, rfl, ho, hb⟩; replace HX := Aside0.mk (HX.out.under hb); obtain ⟨Q2, d2, rfl, hc1, hC1⟩ := Kd.R_reads ho; have HC2 := Aside0.mk hC1; have HD2 := Aside0.mk hc1; replace HC1 := Aside0.mk (Kd.C_below HC1.out hb); clear ho hb hC1 hc1; have K8 := Aside0.mk (show (0 : Nat) = 0 from rfl))
                | (go_at_call 29; clear K8; obtain ⟨ks, hks⟩ := sameOps_self TA.ops (Nat.le_trans HOL.out.1 (by decide)); have hks2 : samphireref11_SameOps.f ks TA.ops TB.ops = some true := (by rw [← HAB.out.1]; exact hks); refine (samphireref11_SameOps.calls ks Q1 d1 TA.ops Q2 d2 TB.ops true _ HC1.out HD1.out HC2.out HD2.out hks2).mono ?_; rintro e w' ⟨rfl, hd⟩; replace HX := Aside0.mk (HX.out.under hd.below); clear hks hks2 hd; have K9 := Aside0.mk (show (0 : Nat) = 0 from rfl))
                | (go_at_call 17; clear K9; refine (Ops_calls _ _ gA fA nA vA TA HX.out.a (Nat.le_trans HOL.out.1 (by decide))).mono ?_; rintro e w' ⟨v_, rfl, ho, hb⟩; replace HX := Aside0.mk (HX.out.under hb); obtain ⟨Q3, d3, rfl, hc1, hC1⟩ := Kd.R_reads ho; have HC3 := Aside0.mk hC1; have HD3 := Aside0.mk hc1; clear ho hb hC1 hc1; have K10 := Aside0.mk (show (0 : Nat) = 0 from rfl))
                | (go_at_call 17; clear K10; refine (Ops_calls _ _ gC fC nC vC TC HX.out.c (Nat.le_trans HOL.out.2.2 (by decide))).mono ?_; rintro e w' ⟨v_, rfl, ho, hb⟩; replace HX := Aside0.mk (HX.out.under hb); obtain ⟨Q4, d4, rfl, hc1, hC1⟩ := Kd.R_reads ho; have HC4 := Aside0.mk hC1; have HD4 := Aside0.mk hc1; replace HC3 := Aside0.mk (Kd.C_below HC3.out hb); clear ho hb hC1 hc1; have K11 := Aside0.mk (show (0 : Nat) = 0 from rfl))
                | (go_at_call 29; clear K11; obtain ⟨ks, hks⟩ := sameOps_self TA.ops (Nat.le_trans HOL.out.1 (by decide)); have hks2 : samphireref11_SameOps.f ks TA.ops TC.ops = some true := (by rw [← HAC.out.1]; exact hks); refine (samphireref11_SameOps.calls ks Q3 d3 TA.ops Q4 d4 TC.ops true _ HC3.out HD3.out HC4.out HD4.out hks2).mono ?_; rintro e w' ⟨rfl, hd⟩; replace HX := Aside0.mk (HX.out.under hd.below); clear hks hks2 hd; have K12 := Aside0.mk (show (0 : Nat) = 0 from rfl)))
              go_ret
              exact ⟨rfl, HX.out.below⟩
end Go.Proofs.YtiffeljmeahmkaaDoor.S
