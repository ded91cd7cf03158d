/- Put's closures, and the writer of a list, as the machine walks them. -/
import Derived.Test.YtlfgdaiegefjiaaDoorSA
import Derived.Test.YtlfgdaiegefjiaaDoorHC
import Derived.Test.YtlfgdaiegefjiaaDoorRA
import Derived.Test.YtlfgdaiegefjiaaDoorQa
import Derived.Test.YtlfgdaiegefjiaaDoorSx5
import Derived.Test.YtlfgdaiegefjiaaDoorPF
import Derived.Test.YtlfgdaiegefjiaaDoorMA
import Derived.Test.YtlfgdaiegefjiaaDoorQc
import Derived.Test.YtlfgdaiegefjiaaDoorSx4
namespace Go.Proofs.YtlfgdaiegefjiaaDoor.S
open Go.RowKit Go.Proofs.YtlfgdaiegefjiaaDoorW.PrintWords Go.Proofs.YtlfgdaiegefjiaaDoorW.PrintLast Go.Proofs.YtlfgdaiegefjiaaDoorW.PrintMore
set_option linter.unusedVariables false
set_option linter.unusedSimpArgs false
def St.num (x : St) (n : Int) : St := x.puts (isTime n) ⟨#[]⟩ [(n, 6)]
def St.node (x : St) (n : Nod) : St := (((x.stamp n.f0.f0 n.f0.f1).stamp n.f1.f0 n.f1.f1).text n.f2).text n.f3
def St.opn (x : St) (o : Opn) : St := x.op o.f0 o.f1.f0 o.f1.f1 o.f2.f0 o.f2.f1 o.f3.f0 o.f3.f1 o.f4 o.f5
def St.nodes (x : St) (l : List Nod) : St := l.foldl St.node x
def St.opns (x : St) (l : List Opn) : St := l.foldl St.opn x
theorem St.num_le (x : St) (n : Int) (h : x.2.length ≤ 65536) : (x.num n).2.length ≤ 65536 := putsTo_le _ _ _ _ _ (by simp) h
theorem St.node_le (x : St) (n : Nod) (h : x.2.length ≤ 65536) : (x.node n).2.length ≤ 65536 := St.text_le _ _ (St.text_le _ _ (St.stamp_le _ _ _ (St.stamp_le _ _ _ h)))
theorem St.opn_le (x : St) (o : Opn) (h : x.2.length ≤ 65536) : (x.opn o).2.length ≤ 65536 := St.text_le _ _ (St.text_le _ _ (St.stamp_le _ _ _ (St.stamp_le _ _ _ (St.stamp_le _ _ _ (St.byte_le _ _ h)))))
theorem St.nodes_le (l : List Nod) : ∀ (x : St), x.2.length ≤ 65536 → (x.nodes l).2.length ≤ 65536 := by
 induction l with
 | nil => exact fun _ h => h
 | cons n l ih => exact fun x h => ih _ (St.node_le x n h)
theorem St.opns_le (l : List Opn) : ∀ (x : St), x.2.length ≤ 65536 → (x.opns l).2.length ≤ 65536 := by
 induction l with
 | nil => exact fun _ h => h
 | cons n l ih => exact fun x h => ih _ (St.opn_le x n h)
abbrev nC (n : Nod) : Array Value := #[.int .i64 n.f0.f0, .int .i64 n.f0.f1, .int .i64 n.f1.f0, .int .i64 n.f1.f1, .string n.f2, .string n.f3]
abbrev oC (o : Opn) : Array Value := #[.int .i64 o.f0, .int .i64 o.f1.f0, .int .i64 o.f1.f1, .int .i64 o.f2.f0, .int .i64 o.f2.f1, .int .i64 o.f3.f0, .int .i64 o.f3.f1, .string o.f4, .string o.f5]
/-- What lies where the closures look: the writer's address, in a box. -/
abbrev BoxAt (w : World) (q g : Nat) : Prop := w.heap[q]? = some (.cells #[.pointer (some ⟨g, 0, none⟩)] 54 (0, 0))
theorem OutAt.ne {w0 w : World} {g q : Nat} {md bd : Bool} {b : List Int} (h : OutAt w0 w g md bd b) (hq : BoxAt w q g) : q ≠ g := by
 obtain ⟨v, h1, _⟩ := h
 exact blk_ne hq h1 (by decide)
theorem OutAt.lt {w0 w : World} {g : Nat} {md bd : Bool} {b : List Int} (h : OutAt w0 w g md bd b) : g < w.heap.size := by
 obtain ⟨v, h1, _⟩ := h
 exact blk_lt h1
theorem OutKept.box {w w' : World} {q g : Nat} (hk : OutKept g w w') (h : BoxAt w q g) (hn : q ≠ g) : BoxAt w' q g := hk.2 _ _ h hn (fun cs e => by cases e)
set_option maxHeartbeats 8000000 in
set_option maxRecDepth 100000 in
theorem put1_calls (g q : Nat) (n : Nod) (x : St) (w0 w : World) (hO : OutAt w0 w g true x.1 x.2) (hB : Below w0.heap.size w0 w) (hbl : x.2.length ≤ 65536) (hq : BoxAt w q g) (h2 : n.f2.size ≤ 140737488355328) (h3 : n.f3.size ≤ 140737488355328) :
 Calls Tryd.prog 37 #[.agg (nC n), .pointer (some ⟨q, 0, none⟩)] w fun e w' => e = .returned (.tuple #[]) ∧ OutAt w0 w' g true (x.node n).1 (x.node n).2 ∧ OutKept g w w' ∧ Below w0.heap.size w0 w' := by
 have hu := Tryd.underlying72
 have HX := Aside0.mk (heap_alloc_new w (.cells (nC n) 72))
 have HO := Aside0.mk (hO.below (below_alloc (Below.refl w.heap.size w) (.cells (nC n) 72)))
 have HB := Aside0.mk (below_then hB hB.size (below_alloc (Below.refl w.heap.size w) (.cells (nC n) 72)))
 have HK := Aside0.mk (OutKept.of_below (g := g) (below_alloc (Below.refl w.heap.size w) (.cells (nC n) 72)))
 have HQ := Aside0.mk (blk_below hq (below_alloc (Below.refl w.heap.size w) (.cells (nC n) 72)))
 have hqg := hO.ne hq
 have hxg : w.heap.size ≠ g := by have := hO.lt; omega
 clear hO hB hq
 go_enter Tryd.func37, Tryd.ntmps37
 go_upto_region 1 with fail
 generalize w.heap.size = b at HX hxg ⊢
 generalize w.alloc (.cells (nC n) 72) = w1 at HX HO HB HK HQ ⊢
 obtain ⟨b0, b1, b2, b3, b4, b5, bf0, bf1, bf2, bf3, bf4, bf5⟩ := Z6 HX.out
 have q0 : w1.cell? ⟨q, 0, none⟩ = some (.pointer (some ⟨g, 0, none⟩)) := (blk_cell HQ.out 0).trans rfl
 have HC := Aside0.mk (Stamp_calls g n.f0.f0 n.f0.f1 x true w0 w1 HO.out HB.out hbl)
 go_upto_region 2 with (go_at_call 35; refine HC.out.mono ?_; rintro e w2 ⟨rfl, h1, hk, hb⟩)
 clear b0 b1 b2 b3 b4 b5 bf0 bf1 bf2 bf3 bf4 bf5 q0 HC HO HB
 replace HX := Aside0.mk (hk.2 _ _ HX.out hxg (fun cs e => by cases e))
 replace HQ := Aside0.mk (hk.box HQ.out hqg)
 replace HK := Aside0.mk (HK.out.trans hk)
 have HC := Aside0.mk (Stamp_calls g n.f1.f0 n.f1.f1 _ true w0 w2 h1 hb (St.stamp_le _ _ _ hbl))
 clear h1 hk hb
 obtain ⟨b0, b1, b2, b3, b4, b5, bf0, bf1, bf2, bf3, bf4, bf5⟩ := Z6 HX.out
 have q0 : w2.cell? ⟨q, 0, none⟩ = some (.pointer (some ⟨g, 0, none⟩)) := (blk_cell HQ.out 0).trans rfl
 go_upto_region 3 with (go_at_call 35; refine HC.out.mono ?_; rintro e w3 ⟨rfl, h1, hk, hb⟩)
 clear b0 b1 b2 b3 b4 b5 bf0 bf1 bf2 bf3 bf4 bf5 q0 HC
 replace HX := Aside0.mk (hk.2 _ _ HX.out hxg (fun cs e => by cases e))
 replace HQ := Aside0.mk (hk.box HQ.out hqg)
 replace HK := Aside0.mk (HK.out.trans hk)
 have HC := Aside0.mk (Text_calls g n.f2 h2 _ true w0 w3 h1 hb (St.stamp_le _ _ _ (St.stamp_le _ _ _ hbl)))
 clear h1 hk hb
 obtain ⟨b0, b1, b2, b3, b4, b5, bf0, bf1, bf2, bf3, bf4, bf5⟩ := Z6 HX.out
 have q0 : w3.cell? ⟨q, 0, none⟩ = some (.pointer (some ⟨g, 0, none⟩)) := (blk_cell HQ.out 0).trans rfl
 go_upto_region 4 with (go_at_call 38; refine HC.out.mono ?_; rintro e w4 ⟨rfl, h1, hk, hb⟩)
 clear b0 b1 b2 b3 b4 b5 bf0 bf1 bf2 bf3 bf4 bf5 q0 HC
 replace HX := Aside0.mk (hk.2 _ _ HX.out hxg (fun cs e => by cases e))
 replace HQ := Aside0.mk (hk.box HQ.out hqg)
 replace HK := Aside0.mk (HK.out.trans hk)
 have HC := Aside0.mk (Text_calls g n.f3 h3 _ true w0 w4 h1 hb (St.text_le _ _ (St.stamp_le _ _ _ (St.stamp_le _ _ _ hbl))))
 clear h1 hk hb
 obtain ⟨b0, b1, b2, b3, b4, b5, bf0, bf1, bf2, bf3, bf4, bf5⟩ := Z6 HX.out
 have q0 : w4.cell? ⟨q, 0, none⟩ = some (.pointer (some ⟨g, 0, none⟩)) := (blk_cell HQ.out 0).trans rfl
 go_wp2_with (go_at_call 38; refine HC.out.mono ?_; rintro e w5 ⟨rfl, h1, hk, hb⟩)
 go_end0
 exact ⟨rfl, h1, HK.out.trans hk, hb⟩
set_option maxHeartbeats 8000000 in
set_option maxRecDepth 100000 in
theorem put2_calls (g q : Nat) (o : Opn) (x : St) (w0 w : World) (hO : OutAt w0 w g true x.1 x.2) (hB : Below w0.heap.size w0 w) (hbl : x.2.length ≤ 65536) (hq : BoxAt w q g) (h2 : o.f4.size ≤ 140737488355328) (h3 : o.f5.size ≤ 140737488355328) :
 Calls Tryd.prog 40 #[.agg (oC o), .pointer (some ⟨q, 0, none⟩)] w fun e w' => e = .returned (.tuple #[]) ∧ OutAt w0 w' g true (x.opn o).1 (x.opn o).2 ∧ OutKept g w w' ∧ Below w0.heap.size w0 w' := by
 have hu := Tryd.underlying25
 have HX := Aside0.mk (heap_alloc_new w (.cells (oC o) 25))
 have HO := Aside0.mk (hO.below (below_alloc (Below.refl w.heap.size w) (.cells (oC o) 25)))
 have HB := Aside0.mk (below_then hB hB.size (below_alloc (Below.refl w.heap.size w) (.cells (oC o) 25)))
 have HK := Aside0.mk (OutKept.of_below (g := g) (below_alloc (Below.refl w.heap.size w) (.cells (oC o) 25)))
 have HQ := Aside0.mk (blk_below hq (below_alloc (Below.refl w.heap.size w) (.cells (oC o) 25)))
 clear hO hB hq
 go_enter Tryd.func40, Tryd.ntmps40
 go_upto_region 1 with fail
 generalize w.heap.size = b at HX ⊢
 generalize w.alloc (.cells (oC o) 25) = w1 at HX HO HB HK HQ ⊢
 obtain ⟨b0, b1, b2, b3, b4, b5, b6, b7, b8, bf⟩ := Z9 HX.out
 have q0 : w1.cell? ⟨q, 0, none⟩ = some (.pointer (some ⟨g, 0, none⟩)) := (blk_cell HQ.out 0).trans rfl
 have HC := Aside0.mk (putsOp_calls g o.f0 o.f1.f0 o.f1.f1 o.f2.f0 o.f2.f1 o.f3.f0 o.f3.f1 o.f4 o.f5 h2 h3 x true w0 w1 HO.out HB.out hbl)
 go_wp2_with (go_at_call 24; refine HC.out.mono ?_; rintro e w5 ⟨rfl, h1, hk, hb⟩)
 go_end0
 exact ⟨rfl, h1, HK.out.trans hk, hb⟩
theorem take_foldl {α β : Type} (f : β → α → β) (x : β) (l : List α) (i : Nat) (h : i < l.length) : (l.take (i + 1)).foldl f x = f ((l.take i).foldl f x) l[i] := by
 rw [List.take_succ_eq_append_getElem h, List.foldl_append]
 rfl
set_option maxHeartbeats 8000000 in
set_option maxRecDepth 100000 in
theorem list1_calls (g q : Nat) (vN : Value) (l : List Nod) (x : St) (w0 w : World) (hN : RowN w0 vN l) (hl : l.length ≤ 100000) (hs : ∀ n ∈ l, n.f2.size ≤ 140737488355328 ∧ n.f3.size ≤ 140737488355328) (hO : OutAt w0 w g true x.1 x.2) (hB : Below w0.heap.size w0 w) (hbl : x.2.length ≤ 65536) (hq : BoxAt w q g) :
 Calls Tryd.prog 36 #[.pointer (some ⟨g, 0, none⟩), vN, .func (.func 37) #[] #[.pointer (some ⟨q, 0, none⟩)]] w fun e w' => e = .returned (.tuple #[]) ∧ OutAt w0 w' g true ((x.num l.length).nodes l).1 ((x.num l.length).nodes l).2 ∧ OutKept g w w' ∧ Below w0.heap.size w0 w' := by
 have hu := Tryd.underlying72
 have hqg := hO.ne hq
 obtain ⟨A, c, rfl, hc1, hC1⟩ := hN
 have HN := Aside0.mk (show RowN w0 (.slice A l.length c) l from ⟨A, c, rfl, hc1, hC1⟩)
 have HS := Aside0.mk hs
 have HQ := Aside0.mk hq
 have HLL := Aside0.mk hl
 have HL := Aside0.mk (St.num_le x l.length hbl)
 have HC := Aside0.mk (Num_calls g l.length x true w0 w hO hB hbl)
 clear hO hB hq hs hc1 hC1 hbl hl
 go_enter Tryd.func36, Tryd.ntmps36
 go_upto_region 1 with (go_at_call 73; refine HC.out.mono ?_; rintro e w1 ⟨rfl, h1, hk, hb⟩)
 have HO1 := Aside0.mk h1
 have HK1 := Aside0.mk hk
 have HB1 := Aside0.mk hb
 clear h1 hk hb HC
 go_wp2_with fail
 try go_frame
 go_loopg [14] (l.length + 1) (fun kq p wr => ∃ i : Int, Aside0 ((kq : Int) + i = (l.length : Int) + 1 ∧ 0 ≤ i ∧ i ≤ (l.length : Int)) ∧ p = .int .i64 i ∧ Aside0 (OutAt w0 wr g true ((x.num l.length).nodes (l.take i.toNat)).1 ((x.num l.length).nodes (l.take i.toNat)).2) ∧ Aside0 (OutKept g w wr) ∧ Aside0 (Below w0.heap.size w0 wr))
 case atStart => exact ⟨0, ⟨by omega⟩, rfl, HO1, HK1, HB1⟩
 case round =>
  clear HO1 HK1 HB1
  obtain ⟨i, HI, rfl, HO, HK, HB⟩ := hrel
  obtain ⟨k1, rfl⟩ : ∃ k1, gk = k1 + 1 := ⟨((l.length : Int) - i).toNat, by have := HI.out; omega⟩
  have h0 : 0 ≤ i := HI.out.2.1
  by_cases hi : i < (l.length : Int)
  · have d0 : decide (i < (l.length : Int)) = true := decide_eq_true hi
    obtain ⟨ad, e, x0, x1, x2, x3, x4, x5⟩ := at_T72 (HN.out.below HB.out).at.2.2 i h0 hi
    cases e
    have p1 := eq_true h0
    have q1 := eq_true hi
    have hw1 : wrap64 (i + 1) = i + 1 := by have := HLL.out; unfold wrap64; omega
    have HT := Aside0.mk (show i.toNat < l.length by omega)
    have HE := Aside0.mk (show rd_T72 l i = l[i.toNat]'HT.out by
     have e := rdN_at l i.toNat HT.out
     rw [show ((i.toNat : Nat) : Int) = i by omega] at e
     rw [e, getElem!_pos l i.toNat HT.out])
    have H0 := Aside0.mk h0
    clear h0 hi
    go_upto_region 4 with fail
    have HX := Aside0.mk (heap_alloc_new wr (.cells (nC (rd_T72 l i)) 72))
    replace HO := Aside0.mk (HO.out.below (below_alloc (Below.refl wr.heap.size wr) (.cells (nC (rd_T72 l i)) 72)))
    replace HK := Aside0.mk (HK.out.trans (OutKept.of_below (g := g) (below_alloc (Below.refl wr.heap.size wr) (.cells (nC (rd_T72 l i)) 72))))
    replace HB := Aside0.mk (below_alloc HB.out (.cells (nC (rd_T72 l i)) 72))
    generalize wr.heap.size = b at HX ⊢
    generalize wr.alloc (.cells (nC (rd_T72 l i)) 72) = w2 at HX HO HK HB ⊢
    clear x0 x1 x2 x3 x4 x5
    obtain ⟨x0, x1, x2, x3, x4, x5, f0, f1, f2, f3, f4, f5⟩ := Z6 HX.out
    have HQ2 := Aside0.mk (HK.out.box HQ.out hqg)
    have HC := Aside0.mk (put1_calls g q (rd_T72 l i) _ w0 w2 HO.out HB.out (St.nodes_le _ _ HL.out) HQ2.out (by rw [HE.out]; exact (HS.out _ (List.getElem_mem HT.out)).1) (by rw [HE.out]; exact (HS.out _ (List.getElem_mem HT.out)).2))
    go_wp2_with (go_at_call 37; refine HC.out.mono ?_; rintro e w3 ⟨rfl, h1, hk, hb⟩; have HO3 := Aside0.mk h1; have HK3 := Aside0.mk (HK.out.trans hk); have HB3 := Aside0.mk hb; clear h1 hk hb)
    go_roundg k1
    case measure => exact Nat.lt_succ_self _
    case rel => exact ⟨i + 1, ⟨by have := HI.out; have := HT.out; omega⟩, (by first | rfl | rw [hw1]), ⟨by
     have e : (x.num l.length).nodes (l.take (i + 1).toNat) = ((x.num l.length).nodes (l.take i.toNat)).node (rd_T72 l i) := by
      rw [show (i + 1).toNat = i.toNat + 1 by have := H0.out; omega, HE.out]
      exact take_foldl _ _ _ _ HT.out
     rw [e]; exact HO3.out⟩, HK3, HB3⟩
  · have d0 : decide (i < (l.length : Int)) = false := decide_eq_false hi
    have HE := Aside0.mk (show l.take i.toNat = l by rw [show i.toNat = l.length by have := HI.out; omega]; exact List.take_length)
    clear hi
    go_wp2
    go_end0
    refine ⟨rfl, ?_, HK.out, HB.out⟩
    have := HO.out
    rw [HE.out] at this
    exact this
set_option maxHeartbeats 8000000 in
set_option maxRecDepth 100000 in
theorem list2_calls (g q : Nat) (vN : Value) (l : List Opn) (x : St) (w0 w : World) (hN : RowO w0 vN l) (hl : l.length ≤ 100000) (hs : ∀ n ∈ l, n.f4.size ≤ 140737488355328 ∧ n.f5.size ≤ 140737488355328) (hO : OutAt w0 w g true x.1 x.2) (hB : Below w0.heap.size w0 w) (hbl : x.2.length ≤ 65536) (hq : BoxAt w q g) :
 Calls Tryd.prog 39 #[.pointer (some ⟨g, 0, none⟩), vN, .func (.func 40) #[] #[.pointer (some ⟨q, 0, none⟩)]] w fun e w' => e = .returned (.tuple #[]) ∧ OutAt w0 w' g true ((x.num l.length).opns l).1 ((x.num l.length).opns l).2 ∧ OutKept g w w' ∧ Below w0.heap.size w0 w' := by
 have hu := Tryd.underlying25
 have hqg := hO.ne hq
 obtain ⟨A, c, rfl, hc1, hC1⟩ := hN
 have HN := Aside0.mk (show RowO w0 (.slice A l.length c) l from ⟨A, c, rfl, hc1, hC1⟩)
 have HS := Aside0.mk hs
 have HQ := Aside0.mk hq
 have HLL := Aside0.mk hl
 have HL := Aside0.mk (St.num_le x l.length hbl)
 have HC := Aside0.mk (Num_calls g l.length x true w0 w hO hB hbl)
 clear hO hB hq hs hc1 hC1 hbl hl
 go_enter Tryd.func39, Tryd.ntmps39
 go_upto_region 1 with (go_at_call 73; refine HC.out.mono ?_; rintro e w1 ⟨rfl, h1, hk, hb⟩)
 have HO1 := Aside0.mk h1
 have HK1 := Aside0.mk hk
 have HB1 := Aside0.mk hb
 clear h1 hk hb HC
 go_wp2_with fail
 try go_frame
 go_loopg [14] (l.length + 1) (fun kq p wr => ∃ i : Int, Aside0 ((kq : Int) + i = (l.length : Int) + 1 ∧ 0 ≤ i ∧ i ≤ (l.length : Int)) ∧ p = .int .i64 i ∧ Aside0 (OutAt w0 wr g true ((x.num l.length).opns (l.take i.toNat)).1 ((x.num l.length).opns (l.take i.toNat)).2) ∧ Aside0 (OutKept g w wr) ∧ Aside0 (Below w0.heap.size w0 wr))
 case atStart => exact ⟨0, ⟨by omega⟩, rfl, HO1, HK1, HB1⟩
 case round =>
  clear HO1 HK1 HB1
  obtain ⟨i, HI, rfl, HO, HK, HB⟩ := hrel
  obtain ⟨k1, rfl⟩ : ∃ k1, gk = k1 + 1 := ⟨((l.length : Int) - i).toNat, by have := HI.out; omega⟩
  have h0 : 0 ≤ i := HI.out.2.1
  by_cases hi : i < (l.length : Int)
  · have d0 : decide (i < (l.length : Int)) = true := decide_eq_true hi
    obtain ⟨ad, e, x0, x1, x2, x3, x4, x5, x6, x7, x8⟩ := at_T25 (HN.out.below HB.out).at.2.2 i h0 hi
    cases e
    have p1 := eq_true h0
    have q1 := eq_true hi
    have hw1 : wrap64 (i + 1) = i + 1 := by have := HLL.out; unfold wrap64; omega
    have HT := Aside0.mk (show i.toNat < l.length by omega)
    have HE := Aside0.mk (show rd_T25 l i = l[i.toNat]'HT.out by
     have e := rd_at l i.toNat HT.out
     rw [show ((i.toNat : Nat) : Int) = i by omega] at e
     exact e)
    have H0 := Aside0.mk h0
    clear h0 hi
    go_upto_region 4 with fail
    have HX := Aside0.mk (heap_alloc_new wr (.cells (oC (rd_T25 l i)) 25))
    replace HO := Aside0.mk (HO.out.below (below_alloc (Below.refl wr.heap.size wr) (.cells (oC (rd_T25 l i)) 25)))
    replace HK := Aside0.mk (HK.out.trans (OutKept.of_below (g := g) (below_alloc (Below.refl wr.heap.size wr) (.cells (oC (rd_T25 l i)) 25))))
    replace HB := Aside0.mk (below_alloc HB.out (.cells (oC (rd_T25 l i)) 25))
    generalize wr.heap.size = b at HX ⊢
    generalize wr.alloc (.cells (oC (rd_T25 l i)) 25) = w2 at HX HO HK HB ⊢
    clear x0 x1 x2 x3 x4 x5 x6 x7 x8
    obtain ⟨x0, x1, x2, x3, x4, x5, x6, x7, x8, f0⟩ := Z9 HX.out
    have HQ2 := Aside0.mk (HK.out.box HQ.out hqg)
    have HC := Aside0.mk (put2_calls g q (rd_T25 l i) _ w0 w2 HO.out HB.out (St.opns_le _ _ HL.out) HQ2.out (by rw [HE.out]; exact (HS.out _ (List.getElem_mem HT.out)).1) (by rw [HE.out]; exact (HS.out _ (List.getElem_mem HT.out)).2))
    go_wp2_with (go_at_call 40; refine HC.out.mono ?_; rintro e w3 ⟨rfl, h1, hk, hb⟩; have HO3 := Aside0.mk h1; have HK3 := Aside0.mk (HK.out.trans hk); have HB3 := Aside0.mk hb; clear h1 hk hb)
    go_roundg k1
    case measure => exact Nat.lt_succ_self _
    case rel => exact ⟨i + 1, ⟨by have := HI.out; have := HT.out; omega⟩, (by first | rfl | rw [hw1]), ⟨by
     have e : (x.num l.length).opns (l.take (i + 1).toNat) = ((x.num l.length).opns (l.take i.toNat)).opn (rd_T25 l i) := by
      rw [show (i + 1).toNat = i.toNat + 1 by have := H0.out; omega, HE.out]
      exact take_foldl _ _ _ _ HT.out
     rw [e]; exact HO3.out⟩, HK3, HB3⟩
  · have d0 : decide (i < (l.length : Int)) = false := decide_eq_false hi
    have HE := Aside0.mk (show l.take i.toNat = l by rw [show i.toNat = l.length by have := HI.out; omega]; exact List.take_length)
    clear hi
    go_wp2
    go_end0
    refine ⟨rfl, ?_, HK.out, HB.out⟩
    have := HO.out
    rw [HE.out] at this
    exact this
end Go.Proofs.YtlfgdaiegefjiaaDoor.S
/- What is read of any bytes: plain. -/
namespace Go.Proofs.YtlfgdaiegefjiaaDoor.S
open Go.RowKit Go.Proofs.YtlfgdaiegefjiaaDoorW.PrintWords Go.Proofs.YtlfgdaiegefjiaaDoorW.PrintLast Go.Proofs.YtlfgdaiegefjiaaDoorW.PrintMore
set_option linter.unusedVariables false
set_option linter.unusedSimpArgs false
def rdStamp (s : ByteArray) (e : Int) : Stp × ByteArray × Int := match code_In_Stamp.f 20 true s e with
 | some r => (⟨r.1, r.2.1⟩, r.2.2.2.1, r.2.2.2.2)
 | none => (⟨0, 0⟩, s, e)
theorem rdStamp_is (s : ByteArray) (e : Int) : code_In_Stamp.f 20 true s e = some ((rdStamp s e).1.f0, (rdStamp s e).1.f1, true, (rdStamp s e).2.1, (rdStamp s e).2.2) := by
 obtain ⟨a, n, s', e', h, _⟩ := stamp_fwd s e 20 (by decide)
 unfold rdStamp
 rw [h]
def rdNum (s : ByteArray) (e : Int) : Int × ByteArray × Int := match code_In_Num.f 20 true s e with
 | some r => (r.1, r.2.2.1, r.2.2.2)
 | none => (0, s, e)
theorem rdNum_is (s : ByteArray) (e : Int) : code_In_Num.f 20 true s e = some ((rdNum s e).1, true, (rdNum s e).2.1, (rdNum s e).2.2) := by
 obtain ⟨v, s', _, e', h, _⟩ := num_both s s e 20 (fun _ => rfl) (by decide)
 unfold rdNum
 rw [h]
def rdText (s : ByteArray) (e : Int) : ByteArray × ByteArray × Int := match code_In_Text.f 20 true s e 1024 with
 | some r => (r.1, r.2.2.1, r.2.2.2)
 | none => (⟨#[]⟩, s, e)
theorem rdText_is (s : ByteArray) (e : Int) : code_In_Text.f 20 true s e 1024 = some ((rdText s e).1, true, (rdText s e).2.1, (rdText s e).2.2) := by
 obtain ⟨v, s', e', h, _⟩ := text_fwd s e 20 (by decide)
 unfold rdText
 rw [h]
theorem rdText_size (s : ByteArray) (e : Int) : (rdText s e).1.size ≤ 1024 := by
 obtain ⟨v, s', _, e', h, _, _, hv⟩ := text_both s s e 20 (fun _ => rfl) (by decide)
 unfold rdText
 rw [h]
 exact hv
def rdNode (s : ByteArray) (e : Int) : Nod × ByteArray × Int :=
 (⟨(rdStamp s e).1, (rdStamp (rdStamp s e).2.1 (rdStamp s e).2.2).1, (rdText (rdStamp (rdStamp s e).2.1 (rdStamp s e).2.2).2.1 (rdStamp (rdStamp s e).2.1 (rdStamp s e).2.2).2.2).1,
  (rdText (rdText (rdStamp (rdStamp s e).2.1 (rdStamp s e).2.2).2.1 (rdStamp (rdStamp s e).2.1 (rdStamp s e).2.2).2.2).2.1 (rdText (rdStamp (rdStamp s e).2.1 (rdStamp s e).2.2).2.1 (rdStamp (rdStamp s e).2.1 (rdStamp s e).2.2).2.2).2.2).1⟩,
  (rdText (rdText (rdStamp (rdStamp s e).2.1 (rdStamp s e).2.2).2.1 (rdStamp (rdStamp s e).2.1 (rdStamp s e).2.2).2.2).2.1 (rdText (rdStamp (rdStamp s e).2.1 (rdStamp s e).2.2).2.1 (rdStamp (rdStamp s e).2.1 (rdStamp s e).2.2).2.2).2.2).2)
/-- The four reads of a node, by name. -/
theorem rdNode_of {s s1 s2 s3 s4 : ByteArray} {e e1 e2 e3 e4 : Int} {a b : Stp} {c d : ByteArray} (h1 : rdStamp s e = (a, s1, e1)) (h2 : rdStamp s1 e1 = (b, s2, e2)) (h3 : rdText s2 e2 = (c, s3, e3)) (h4 : rdText s3 e3 = (d, s4, e4)) : rdNode s e = (⟨a, b, c, d⟩, s4, e4) := by
 unfold rdNode
 simp only [h1, h2, h3, h4]
def rdOpn (s : ByteArray) (e : Int) : Opn × ByteArray × Int := match snap_takes.f 20 true s e with
 | some (o, t1, w1, t2, w2, t3, w3, nm, v, _, s', e') => (⟨o, ⟨t1, w1⟩, ⟨t2, w2⟩, ⟨t3, w3⟩, nm, v⟩, s', e')
 | none => (⟨0, ⟨0, 0⟩, ⟨0, 0⟩, ⟨0, 0⟩, ⟨#[]⟩, ⟨#[]⟩⟩, s, e)
theorem takes_reads (s : ByteArray) (e : Int) : ∃ o t1 w1 t2 w2 t3 w3 nm v s' e', snap_takes.f 20 true s e = some (o, t1, w1, t2, w2, t3, w3, nm, v, true, s', e') ∧ nm.size ≤ 1024 ∧ v.size ≤ 1024 := by
 obtain ⟨o, p1, e1, a1, _⟩ := byte_fwd s e 20 (by decide)
 obtain ⟨t1, w1, p2, e2, a2, _⟩ := stamp_fwd p1 e1 20 (by decide)
 obtain ⟨t2, w2, p3, e3, a3, _⟩ := stamp_fwd p2 e2 20 (by decide)
 obtain ⟨t3, w3, p4, e4, a4, _⟩ := stamp_fwd p3 e3 20 (by decide)
 obtain ⟨nm, p5, _, e5, a5, _, _, d5⟩ := text_both p4 p4 e4 20 (fun _ => rfl) (by decide)
 obtain ⟨v, p6, _, e6, a6, _, _, d6⟩ := text_both p5 p5 e5 20 (fun _ => rfl) (by decide)
 refine ⟨o, t1, w1, t2, w2, t3, w3, nm, v, p6, e6, ?_, d5, d6⟩
 unfold snap_takes.f
 rw [a1, Option.bind_some, a2, Option.bind_some, a3, Option.bind_some, a4, Option.bind_some, a5, Option.bind_some, a6, Option.bind_some]
theorem rdOpn_is (s : ByteArray) (e : Int) : snap_takes.f 20 true s e = some ((rdOpn s e).1.f0, (rdOpn s e).1.f1.f0, (rdOpn s e).1.f1.f1, (rdOpn s e).1.f2.f0, (rdOpn s e).1.f2.f1, (rdOpn s e).1.f3.f0, (rdOpn s e).1.f3.f1, (rdOpn s e).1.f4, (rdOpn s e).1.f5, true, (rdOpn s e).2.1, (rdOpn s e).2.2) := by
 obtain ⟨o, t1, w1, t2, w2, t3, w3, nm, v, s', e', h, _⟩ := takes_reads s e
 unfold rdOpn
 rw [h]
theorem rdOpn_size (s : ByteArray) (e : Int) : (rdOpn s e).1.f4.size ≤ 1024 ∧ (rdOpn s e).1.f5.size ≤ 1024 := by
 obtain ⟨o, t1, w1, t2, w2, t3, w3, nm, v, s', e', h, h1, h2⟩ := takes_reads s e
 unfold rdOpn
 rw [h]
 exact ⟨h1, h2⟩
def nodeStep (x : List Nod × ByteArray × Int) : List Nod × ByteArray × Int := (x.1 ++ [(rdNode x.2.1 x.2.2).1], (rdNode x.2.1 x.2.2).2)
def opnStep (x : List Opn × ByteArray × Int) : List Opn × ByteArray × Int := (x.1 ++ [(rdOpn x.2.1 x.2.2).1], (rdOpn x.2.1 x.2.2).2)
def rdNodes (n : Nat) (s : ByteArray) (e : Int) : List Nod × ByteArray × Int := Nat.repeat nodeStep n ([], s, e)
def rdOpns (n : Nat) (s : ByteArray) (e : Int) : List Opn × ByteArray × Int := Nat.repeat opnStep n ([], s, e)
theorem rdNodes_more (n : Nat) (s : ByteArray) (e : Int) : rdNodes (n + 1) s e = nodeStep (rdNodes n s e) := rfl
theorem rdOpns_more (n : Nat) (s : ByteArray) (e : Int) : rdOpns (n + 1) s e = opnStep (rdOpns n s e) := rfl
theorem rdNodes_len (s : ByteArray) (e : Int) : ∀ n, (rdNodes n s e).1.length = n
 | 0 => rfl
 | n + 1 => by rw [rdNodes_more, nodeStep, List.length_append, rdNodes_len s e n]; rfl
theorem rdOpns_len (s : ByteArray) (e : Int) : ∀ n, (rdOpns n s e).1.length = n
 | 0 => rfl
 | n + 1 => by rw [rdOpns_more, opnStep, List.length_append, rdOpns_len s e n]; rfl
theorem rdNode_size (s : ByteArray) (e : Int) : (rdNode s e).1.f2.size ≤ 1024 ∧ (rdNode s e).1.f3.size ≤ 1024 := ⟨rdText_size _ _, rdText_size _ _⟩
theorem rdNodes_size (s : ByteArray) (e : Int) : ∀ n, ∀ m ∈ (rdNodes n s e).1, m.f2.size ≤ 1024 ∧ m.f3.size ≤ 1024
 | 0 => fun m h => by cases h
 | n + 1 => fun m h => by
  rw [rdNodes_more, nodeStep, List.mem_append, List.mem_singleton] at h
  rcases h with h | rfl
  · exact rdNodes_size s e n m h
  · exact rdNode_size _ _
theorem rdOpns_size (s : ByteArray) (e : Int) : ∀ n, ∀ m ∈ (rdOpns n s e).1, m.f4.size ≤ 1024 ∧ m.f5.size ≤ 1024
 | 0 => fun m h => by cases h
 | n + 1 => fun m h => by
  rw [rdOpns_more, opnStep, List.mem_append, List.mem_singleton] at h
  rcases h with h | rfl
  · exact rdOpns_size s e n m h
  · exact rdOpn_size _ _
/-- A list that is read, of 512 at the most; false: there are more. -/
def someN (s : ByteArray) (e : Int) : List Nod × Bool × ByteArray × Int := if (rdNum s e).1 > 512 then ([], false, (rdNum s e).2) else ((rdNodes (rdNum s e).1.toNat (rdNum s e).2.1 (rdNum s e).2.2).1, true, (rdNodes (rdNum s e).1.toNat (rdNum s e).2.1 (rdNum s e).2.2).2)
def someO (s : ByteArray) (e : Int) : List Opn × Bool × ByteArray × Int := if (rdNum s e).1 > 512 then ([], false, (rdNum s e).2) else ((rdOpns (rdNum s e).1.toNat (rdNum s e).2.1 (rdNum s e).2.2).1, true, (rdOpns (rdNum s e).1.toNat (rdNum s e).2.1 (rdNum s e).2.2).2)
end Go.Proofs.YtlfgdaiegefjiaaDoor.S
/- What Take's closures read; the reader of a list, as the machine walks them. -/
namespace Go.Proofs.YtlfgdaiegefjiaaDoor.S
open Go.RowKit Go.Proofs.YtlfgdaiegefjiaaDoorW.PrintWords Go.Proofs.YtlfgdaiegefjiaaDoorW.PrintLast Go.Proofs.YtlfgdaiegefjiaaDoorW.PrintMore
set_option linter.unusedVariables false
set_option linter.unusedSimpArgs false
theorem keep_blk {w w' : World} {g k : Nat} {o : Obj} (hk : KeepBut w w' g none) (h : w.heap[k]? = some o) (hne : k ≠ g) : w'.heap[k]? = some o := (hk.2 k (blk_lt h) hne (by simp)).trans h
theorem NodesAt.keep {w w1 : World} {B g : Nat} {v : Value} {l : List Nod} (h : NodesAt w B v l) (hk : KeepBut w w1 g none) (hg : g < B) : NodesAt w1 B v l := by
 refine ⟨h.1, ?_⟩
 rcases h.2 with hn | ⟨q, cap, cur, hv, hB, hc, rest⟩
 · exact .inl hn
 · exact .inr ⟨q, cap, cur, hv, hB, keep_blk hk hc (by omega), rest⟩
theorem OpsAt.keep {w w1 : World} {B g : Nat} {v : Value} {l : List Opn} (h : OpsAt w B v l) (hk : KeepBut w w1 g none) (hg : g < B) : OpsAt w1 B v l := by
 refine OpsAt.of_row ⟨h.row.1, ?_⟩
 rcases h.row.2 with hn | ⟨q, cap, cur, hv, hB, hc, rest⟩
 · exact .inl hn
 · exact .inr ⟨q, cap, cur, hv, hB, keep_blk hk hc (by omega), rest⟩
/-- Where the readers look: the address of what is read, in a box. -/
abbrev BoxIn (w : World) (q g : Nat) : Prop := w.heap[q]? = some (.cells #[.pointer (some ⟨g, 0, none⟩)] 62 (0, 0))
theorem in_ne {w0 w : World} {g q : Nat} {m : Bool} {s : ByteArray} {e : Int} (h : IsS107 w0 w g m s e) (hq : BoxIn w q g) : q ≠ g := blk_ne hq h.1 (by decide)
theorem in_set {w0 w : World} {g k : Nat} {m : Bool} {s : ByteArray} {e : Int} (h : IsS107 w0 w g m s e) (hk : k ≠ g) (j : Nat) (u : Value) : IsS107 w0 (w.setCell ⟨k, j, none⟩ u) g m s e := ⟨(Below.heap_setCell w _ _ g (Ne.symm hk)).trans h.1, h.2⟩
theorem keep_new {w w' : World} {g r : Nat} (h : KeepBut w w' g none) (hr : w.heap.size ≤ r) (j : Nat) (u : Value) : KeepBut w (w'.setCell ⟨r, j, none⟩ u) g none :=
 ⟨by rw [show (w'.setCell ⟨r, j, none⟩ u).heap.size = w'.heap.size by simp]; exact h.1, fun i hi h1 h2 => (Below.heap_setCell w' ⟨r, j, none⟩ u i (by show i ≠ r; omega)).trans (h.2 i hi h1 h2)⟩
def take1_.T1 : Bool × List (List Nat × List Nat) := (true, [([], []), ([0], [0]), ([], []), ([2, 1], [2]), ([], []), ([4, 3], [4]), ([], []), ([6, 5], [6]), ([1, 3, 5, 7], [1, 3, 5, 7]), ([8, 7, 0, 1, 2, 3, 4, 5, 6, 7, 8], [8])])
def take1_.B1 : List Nat := [0, 1, 0, 7, 0, 31, 0, 127, 255, 511]
theorem take1_.tab1 : rtab .any (opsOf Tryd.f47 1) = take1_.T1 := by kernel_rfl
theorem take1_.bits1 : waitsOk take1_.T1.2 take1_.B1 = true := by kernel_rfl
set_option maxHeartbeats 8000000 in
set_option maxRecDepth 100000 in
theorem take1_calls (g q : Nat) (s : ByteArray) (e : Int) (w0 w : World) (hI : IsS107 w0 w g true s e) (hB : Below w0.heap.size w0 w) (hq : BoxIn w q g) :
 Calls Tryd.prog 47 #[.pointer (some ⟨q, 0, none⟩)] w fun en w' => en = .returned (.agg (nC (rdNode s e).1)) ∧ IsS107 w0 w' g true (rdNode s e).2.1 (rdNode s e).2.2 ∧ Below w0.heap.size w0 w' ∧ KeepBut w w' g none := by
 have hu := Tryd.underlying72
 obtain ⟨a, s1, e1, h1⟩ : ∃ a s1 e1, rdStamp s e = (a, s1, e1) := ⟨_, _, _, rfl⟩
 obtain ⟨b, s2, e2, h2⟩ : ∃ a s2 e2, rdStamp s1 e1 = (a, s2, e2) := ⟨_, _, _, rfl⟩
 obtain ⟨c, s3, e3, h3⟩ : ∃ a s3 e3, rdText s2 e2 = (a, s3, e3) := ⟨_, _, _, rfl⟩
 obtain ⟨d, s4, e4, h4⟩ : ∃ a s4 e4, rdText s3 e3 = (a, s4, e4) := ⟨_, _, _, rfl⟩
 rw [rdNode_of h1 h2 h3 h4]
 have H1 := Aside0.mk (rdStamp_is s e)
 have H2 := Aside0.mk (rdStamp_is s1 e1)
 have H3 := Aside0.mk (rdText_is s2 e2)
 have H4 := Aside0.mk (rdText_is s3 e3)
 rw [h1] at H1
 rw [h2] at H2
 rw [h3] at H3
 rw [h4] at H4
 clear h1 h2 h3 h4
 have nq := in_ne hI hq
 have nr : w.heap.size ≠ g := by have := blk_lt hI.1; omega
 have nqr : q ≠ w.heap.size := by have := blk_lt hq; omega
 have HR := Aside0.mk (heap_alloc_new w (.cells #[.int .i64 0, .int .i64 0, .int .i64 0, .int .i64 0, .string ⟨#[]⟩, .string ⟨#[]⟩] 72))
 have HI := Aside0.mk (hI.below (below_alloc (Below.refl w.heap.size w) (.cells #[.int .i64 0, .int .i64 0, .int .i64 0, .int .i64 0, .string ⟨#[]⟩, .string ⟨#[]⟩] 72)))
 have HB := Aside0.mk (below_alloc hB (.cells #[.int .i64 0, .int .i64 0, .int .i64 0, .int .i64 0, .string ⟨#[]⟩, .string ⟨#[]⟩] 72))
 have HQ := Aside0.mk (blk_below hq (below_alloc (Below.refl w.heap.size w) (.cells #[.int .i64 0, .int .i64 0, .int .i64 0, .int .i64 0, .string ⟨#[]⟩, .string ⟨#[]⟩] 72)))
 have HK := Aside0.mk (KeepBut.of_below (below_alloc (Below.refl w.heap.size w) (.cells #[.int .i64 0, .int .i64 0, .int .i64 0, .int .i64 0, .string ⟨#[]⟩, .string ⟨#[]⟩] 72)) g none)
 have hge : w0.heap.size ≤ w.heap.size := hB.size
 clear hI hB hq
 go_enter Tryd.func47, Tryd.ntmps47
 go_upto_region 1 with fail
 generalize hr : w.heap.size = r at HR nr nqr hge ⊢
 have HRW := Aside0.mk hr
 clear hr
 generalize w.alloc (.cells #[.int .i64 0, .int .i64 0, .int .i64 0, .int .i64 0, .string ⟨#[]⟩, .string ⟨#[]⟩] 72) = w1 at HR HI HB HQ HK ⊢
 replace HR := Aside0.mk (show w1.drew.heap[r]? = _ from HR.out)
 replace HQ := Aside0.mk (show w1.drew.heap[q]? = _ from HQ.out)
 replace HI := Aside0.mk (HI.out.below (Below.refl _ _).drew)
 replace HB := Aside0.mk HB.out.drew
 replace HK := Aside0.mk (HK.out.trans (KeepBut.of_below (Below.refl w1.heap.size w1).drew g none) (.inl rfl))
 refine start_ (n := 10) (S := fun w' => w'.cell? ⟨q, 0, none⟩ = some (.pointer (some ⟨g, 0, none⟩))) (ds := []) (mb 10 0) (by kernel_rfl) rfl (by kernel_rfl) ((blk_cell HQ.out 0)) (fun hHeld => ?_)
 refine with_tabW take1_.tab1 take1_.bits1 (fun HT_ HW_ => ?_)
 refine take_ (i := 0) (N := some 2) (v := ?_) (a' := ?_) (mb 10 1) rfl rfl (take_ofW HT_.out HW_.out (by kernel_rfl)) (fun _ _ _ h => h) (Or.inl ⟨by rfl, ?_⟩) hHeld ?_ ?_
 rotate_left
 · intro w' s0
   go_simp
   with_reducible rfl
 rotate_left
 · simp only [Act.put, List.setIfInBounds_toArray, List.set_cons_zero, List.set_cons_succ, i64_w, i32_w]
   rfl
 refine take_ (i := 2) (N := some 4) (v := ?_) (a' := ?_) (mb 10 5) rfl rfl (take_ofW HT_.out HW_.out (by kernel_rfl)) (fun _ _ _ h => h) (Or.inl ⟨by rfl, ?_⟩) hHeld ?_ ?_
 rotate_left
 · intro w' s0
   go_simp
   with_reducible rfl
 rotate_left
 · simp only [Act.put, List.setIfInBounds_toArray, List.set_cons_zero, List.set_cons_succ, i64_w, i32_w]
   rfl
 refine take_ (i := 4) (N := some 6) (v := ?_) (a' := ?_) (mb 10 21) rfl rfl (take_ofW HT_.out HW_.out (by kernel_rfl)) (fun _ _ _ h => h) (Or.inl ⟨by rfl, ?_⟩) hHeld ?_ ?_
 rotate_left
 · intro w' s0
   go_simp
   with_reducible rfl
 rotate_left
 · simp only [Act.put, List.setIfInBounds_toArray, List.set_cons_zero, List.set_cons_succ, i64_w, i32_w]
   rfl
 refine take_ (i := 6) (N := some 8) (v := ?_) (a' := ?_) (mb 10 85) rfl rfl (take_ofW HT_.out HW_.out (by kernel_rfl)) (fun _ _ _ h => h) (Or.inl ⟨by rfl, ?_⟩) hHeld ?_ ?_
 rotate_left
 · intro w' s0
   go_simp
   with_reducible rfl
 rotate_left
 · simp only [Act.put, List.setIfInBounds_toArray, List.set_cons_zero, List.set_cons_succ, i64_w, i32_w]
   rfl
 refine on 1 (some 3) (mb 10 87) HT_ (fun K hK => ?_)
 refine gs Tryd.func45 #[.pointer (some ⟨g, 0, none⟩)] ?_
 with_reducible refine (code_In_Stamp.calls 20 g true s e _ _ _ _ _ w0 _ HI.out HB.out H1.out).mono ?_
 rintro e w5 ⟨rfl, h1, h2, h3⟩
 refine ⟨_, rfl, ?_⟩
 replace HI := Aside0.mk h1
 replace HB := Aside0.mk h2
 replace HQ := Aside0.mk (keep_blk h3 HQ.out nq)
 replace HR := Aside0.mk (keep_blk h3 HR.out nr)
 replace HK := Aside0.mk (HK.out.trans h3 (.inl rfl))
 clear h1 h2 h3
 refine hK.out _ _ ((blk_cell HQ.out 0)) (fun hHeld => ?_)
 clear hK K
 refine nm _ ?_
 refine on 3 (some 5) (mb 10 95) HT_ (fun K hK => ?_)
 refine gs Tryd.func45 #[.pointer (some ⟨g, 0, none⟩)] ?_
 with_reducible refine (code_In_Stamp.calls 20 g true s1 e1 _ _ _ _ _ w0 _ HI.out HB.out H2.out).mono ?_
 rintro e w5 ⟨rfl, h1, h2, h3⟩
 refine ⟨_, rfl, ?_⟩
 replace HI := Aside0.mk h1
 replace HB := Aside0.mk h2
 replace HQ := Aside0.mk (keep_blk h3 HQ.out nq)
 replace HR := Aside0.mk (keep_blk h3 HR.out nr)
 replace HK := Aside0.mk (HK.out.trans h3 (.inl rfl))
 clear h1 h2 h3
 refine hK.out _ _ ((blk_cell HQ.out 0)) (fun hHeld => ?_)
 clear hK K
 refine nm _ ?_
 refine on 5 (some 7) (mb 10 127) HT_ (fun K hK => ?_)
 refine gs Tryd.func48 #[.pointer (some ⟨g, 0, none⟩), .int .i64 1024] ?_
 with_reducible refine (code_In_Text.calls 20 g true s2 e2 1024 _ _ _ _ w0 _ HI.out HB.out H3.out).mono ?_
 rintro e w5 ⟨rfl, h1, h2, h3⟩
 refine ⟨_, rfl, ?_⟩
 replace HI := Aside0.mk h1
 replace HB := Aside0.mk h2
 replace HQ := Aside0.mk (keep_blk h3 HQ.out nq)
 replace HR := Aside0.mk (keep_blk h3 HR.out nr)
 replace HK := Aside0.mk (HK.out.trans h3 (.inl rfl))
 clear h1 h2 h3
 refine hK.out _ _ ((blk_cell HQ.out 0)) (fun hHeld => ?_)
 clear hK K
 refine nm _ ?_
 refine on 7 (some 9) (mb 10 255) HT_ (fun K hK => ?_)
 refine gs Tryd.func48 #[.pointer (some ⟨g, 0, none⟩), .int .i64 1024] ?_
 with_reducible refine (code_In_Text.calls 20 g true s3 e3 1024 _ _ _ _ w0 _ HI.out HB.out H4.out).mono ?_
 rintro e w5 ⟨rfl, h1, h2, h3⟩
 refine ⟨_, rfl, ?_⟩
 replace HI := Aside0.mk h1
 replace HB := Aside0.mk h2
 replace HQ := Aside0.mk (keep_blk h3 HQ.out nq)
 replace HR := Aside0.mk (keep_blk h3 HR.out nr)
 replace HK := Aside0.mk (HK.out.trans h3 (.inl rfl))
 clear h1 h2 h3
 refine hK.out _ _ ((blk_cell HQ.out 0)) (fun hHeld => ?_)
 clear hK K
 refine nm _ ?_
 refine pu 8 10 (mb 10 511) HT_ ?_
 refine on 9 none (mb 10 1023) HT_ (fun K hK => ?_)
 obtain ⟨r0, r1, r2, r3, r4, r5, f0, f1, f2, f3, f4, f5⟩ := Z6 HR.out
 refine skip_ (w1 := ?_) (by rfl) rfl ?_ ?_
 rotate_left
 · go_simp
   rfl
 refine hK.out _ _ ((blk_cell (blk_far (blk_far (blk_far (blk_far (blk_far (blk_far HQ.out nqr _) nqr _) nqr _) nqr _) nqr _) nqr _) 0)) (fun hHeld => ?_)
 clear hK K
 refine dn HT_ ?_
 go_wp2
 refine bodyPost_ret (results_cell_row rfl _ _ r 72 (nC ⟨a, b, c, d⟩) (0, 0) _ rfl (blk_set (blk_set (blk_set (blk_set (blk_set (blk_set HR.out 0 _) 1 _) 2 _) 3 _) 4 _) 5 _) Tryd.underlying72 rfl (by kernel_rfl)) rfl ?_
 have hle : w.heap.size ≤ r := Nat.le_of_eq HRW.out
 exact ⟨rfl, in_set (in_set (in_set (in_set (in_set (in_set HI.out nr _ _) nr _ _) nr _ _) nr _ _) nr _ _) nr _ _, below_set (below_set (below_set (below_set (below_set (below_set HB.out hge) hge) hge) hge) hge) hge,
  keep_new (keep_new (keep_new (keep_new (keep_new (keep_new HK.out hle _ _) hle _ _) hle _ _) hle _ _) hle _ _) hle _ _⟩
set_option maxHeartbeats 8000000 in
set_option maxRecDepth 100000 in
theorem take2_calls (g q : Nat) (s : ByteArray) (e : Int) (w0 w : World) (hI : IsS107 w0 w g true s e) (hB : Below w0.heap.size w0 w) (hq : BoxIn w q g) :
 Calls Tryd.prog 50 #[.pointer (some ⟨q, 0, none⟩)] w fun en w' => en = .returned (.agg (oC (rdOpn s e).1)) ∧ IsS107 w0 w' g true (rdOpn s e).2.1 (rdOpn s e).2.2 ∧ Below w0.heap.size w0 w' ∧ KeepBut w w' g none := by
 have hu := Tryd.underlying25
 have nq := in_ne hI hq
 have nr : w.heap.size ≠ g := by have := blk_lt hI.1; omega
 have H1 := Aside0.mk (rdOpn_is s e)
 generalize rdOpn s e = x at H1 ⊢
 have HR := Aside0.mk (heap_alloc_new w (.cells #[.int .i64 0, .int .i64 0, .int .i64 0, .int .i64 0, .int .i64 0, .int .i64 0, .int .i64 0, .string ⟨#[]⟩, .string ⟨#[]⟩] 25))
 have HI := Aside0.mk (hI.below (below_alloc (Below.refl w.heap.size w) (.cells #[.int .i64 0, .int .i64 0, .int .i64 0, .int .i64 0, .int .i64 0, .int .i64 0, .int .i64 0, .string ⟨#[]⟩, .string ⟨#[]⟩] 25)))
 have HB := Aside0.mk (below_alloc hB (.cells #[.int .i64 0, .int .i64 0, .int .i64 0, .int .i64 0, .int .i64 0, .int .i64 0, .int .i64 0, .string ⟨#[]⟩, .string ⟨#[]⟩] 25))
 have HQ := Aside0.mk (blk_below hq (below_alloc (Below.refl w.heap.size w) (.cells #[.int .i64 0, .int .i64 0, .int .i64 0, .int .i64 0, .int .i64 0, .int .i64 0, .int .i64 0, .string ⟨#[]⟩, .string ⟨#[]⟩] 25)))
 have HK := Aside0.mk (KeepBut.of_below (below_alloc (Below.refl w.heap.size w) (.cells #[.int .i64 0, .int .i64 0, .int .i64 0, .int .i64 0, .int .i64 0, .int .i64 0, .int .i64 0, .string ⟨#[]⟩, .string ⟨#[]⟩] 25)) g none)
 have hge : w0.heap.size ≤ w.heap.size := hB.size
 clear hI hB hq
 go_enter Tryd.func50, Tryd.ntmps50
 go_upto_region 1 with fail
 generalize hr : w.heap.size = r at HR nr hge ⊢
 have HRW := Aside0.mk hr
 clear hr
 generalize w.alloc (.cells #[.int .i64 0, .int .i64 0, .int .i64 0, .int .i64 0, .int .i64 0, .int .i64 0, .int .i64 0, .string ⟨#[]⟩, .string ⟨#[]⟩] 25) = w1 at HR HI HB HQ HK ⊢
 have q0 : w1.cell? ⟨q, 0, none⟩ = some (.pointer (some ⟨g, 0, none⟩)) := (blk_cell HQ.out 0).trans rfl
 go_wp2_with (go_at_call 30; refine (snap_takes.calls 20 g true s e _ _ _ _ _ _ _ _ _ _ _ _ w0 _ HI.out HB.out H1.out).mono ?_; rintro en w5 ⟨rfl, h1, h2, h3⟩; have HR5 := Aside0.mk (keep_blk h3 HR.out nr); obtain ⟨r0, r1, r2, r3, r4, r5, r6, r7, r8, f0⟩ := Z9 HR5.out)
 refine bodyPost_ret (results_cell_row rfl _ _ r 25 (oC x.1) (0, 0) _ rfl (blk_set (blk_set (blk_set (blk_set (blk_set (blk_set (blk_set (blk_set (blk_set HR5.out 0 _) 1 _) 2 _) 3 _) 4 _) 5 _) 6 _) 7 _) 8 _) Tryd.underlying25 rfl (by kernel_rfl)) rfl ?_
 have hle : w.heap.size ≤ r := Nat.le_of_eq HRW.out
 exact ⟨rfl, in_set (in_set (in_set (in_set (in_set (in_set (in_set (in_set (in_set h1 nr _ _) nr _ _) nr _ _) nr _ _) nr _ _) nr _ _) nr _ _) nr _ _) nr _ _, below_set (below_set (below_set (below_set (below_set (below_set (below_set (below_set (below_set h2 hge) hge) hge) hge) hge) hge) hge) hge) hge,
  keep_new (keep_new (keep_new (keep_new (keep_new (keep_new (keep_new (keep_new (keep_new (HK.out.trans h3 (.inl rfl)) hle _ _) hle _ _) hle _ _) hle _ _) hle _ _) hle _ _) hle _ _) hle _ _) hle _ _⟩
end Go.Proofs.YtlfgdaiegefjiaaDoor.S
/- The reader of a list, as the machine walks it. -/
namespace Go.Proofs.YtlfgdaiegefjiaaDoor.S
open Go.RowKit Go.Proofs.YtlfgdaiegefjiaaDoorW.PrintWords Go.Proofs.YtlfgdaiegefjiaaDoorW.PrintLast Go.Proofs.YtlfgdaiegefjiaaDoorW.PrintMore
set_option linter.unusedVariables false
set_option linter.unusedSimpArgs false
set_option maxHeartbeats 8000000 in
set_option maxRecDepth 100000 in
theorem some1_calls (g q : Nat) (s : ByteArray) (e : Int) (w0 w : World) (hI : IsS107 w0 w g true s e) (hB : Below w0.heap.size w0 w) (hq : BoxIn w q g) :
 Calls Tryd.prog 46 #[.pointer (some ⟨g, 0, none⟩), .int .i64 512, .func (.func 47) #[] #[.pointer (some ⟨q, 0, none⟩)]] w fun en w' => ∃ v, en = .returned (.tuple #[v, .bool (someN s e).2.1]) ∧ NodesAt w' w.heap.size v (someN s e).1 ∧ IsS107 w0 w' g true (someN s e).2.2.1 (someN s e).2.2.2 ∧ Below w0.heap.size w0 w' ∧ KeepBut w w' g none := by
 have hu := Tryd.underlying72
 have nq := in_ne hI hq
 have hgB : g < w.heap.size := blk_lt hI.1
 have HQ := Aside0.mk hq
 have hge : w0.heap.size ≤ w.heap.size := hB.size
 have HC := Aside0.mk (code_In_Num.calls 20 g true s e _ _ _ _ w0 w hI hB (rdNum_is s e))
 have HSD := Aside0.mk (show someN s e = if (rdNum s e).1 > 512 then ([], false, (rdNum s e).2) else ((rdNodes (rdNum s e).1.toNat (rdNum s e).2.1 (rdNum s e).2.2).1, true, (rdNodes (rdNum s e).1.toNat (rdNum s e).2.1 (rdNum s e).2.2).2) from rfl)
 generalize rdNum s e = r at HC HSD ⊢
 obtain ⟨n, s1, e1⟩ := r
 clear hI hB hq
 go_enter Tryd.func46, Tryd.ntmps46
 go_upto_region 2 with (go_at_call 77; refine HC.out.mono ?_; rintro en w1 ⟨rfl, h1, h2, h3⟩)
 have HI := Aside0.mk h1
 have HB := Aside0.mk h2
 have HK := Aside0.mk h3
 clear h1 h2 h3 HC
 by_cases hn : n > 512
 · have d0 : decide (n > 512) = true := decide_eq_true hn
   have d1 : decide ((512 : Int) < n) = true := decide_eq_true hn
   have d2 : ((512 : Int) < n) = True := eq_true hn
   have HE := Aside0.mk (show someN s e = ([], false, (s1, e1)) from HSD.out.trans (if_pos hn))
   clear hn
   go_wp2
   go_ret2
   rw [HE.out]
   exact ⟨_, rfl, World.ownsRow_nil _ _ _ _, HI.out, HB.out, HK.out⟩
 · have d0 : decide (n > 512) = false := decide_eq_false hn
   have d1 : decide ((512 : Int) < n) = false := decide_eq_false hn
   have d2 : ((512 : Int) < n) = False := eq_false hn
   have HE := Aside0.mk (show someN s e = ((rdNodes n.toNat s1 e1).1, true, (rdNodes n.toNat s1 e1).2) from HSD.out.trans (if_neg hn))
   have HN := Aside0.mk hn
   clear hn
   go_wp2_with fail
   try go_frame
   go_loopg [16, 9] (n.toNat + 1) (fun kq p po wr => ∃ (i : Int) (vo : Value), Aside0 ((kq : Int) + i = (n.toNat : Int) + 1 ∧ 0 ≤ i ∧ i ≤ (n.toNat : Int)) ∧ p = .int .i64 i ∧ po = vo ∧ Aside0 (NodesAt wr w.heap.size vo (rdNodes i.toNat s1 e1).1) ∧ Aside0 (IsS107 w0 wr g true (rdNodes i.toNat s1 e1).2.1 (rdNodes i.toNat s1 e1).2.2) ∧ Aside0 (Below w0.heap.size w0 wr) ∧ Aside0 (KeepBut w wr g none))
   case atStart => exact ⟨0, _, ⟨by omega⟩, rfl, rfl, ⟨World.ownsRow_nil _ _ _ _⟩, HI, HB, HK⟩
   case round =>
    clear HI HB HK
    obtain ⟨i, vo, HR, rfl, rfl, HO, HI, HB, HK⟩ := hrel
    obtain ⟨k1, rfl⟩ : ∃ k1, gk = k1 + 1 := ⟨((n.toNat : Int) - i).toNat, by have := HR.out; omega⟩
    have h0 : 0 ≤ i := HR.out.2.1
    by_cases hi : i < n
    · have b0 : decide (i < n) = true := decide_eq_true hi
      have HLN := Aside0.mk (show (rdNodes i.toNat s1 e1).1.length ≤ 512 by rw [rdNodes_len]; have := HN.out; omega)
      have HST := Aside0.mk (show rdNodes (i + 1).toNat s1 e1 = nodeStep (rdNodes i.toNat s1 e1) by rw [show (i + 1).toNat = i.toNat + 1 by omega]; rfl)
      have hw1 : wrap64 (i + 1) = i + 1 := by have := HN.out; unfold wrap64; omega
      have HR1 := Aside0.mk (show (k1 : Int) + (i + 1) = (n.toNat : Int) + 1 ∧ 0 ≤ i + 1 ∧ i + 1 ≤ (n.toNat : Int) by have := HR.out; omega)
      generalize rdNodes i.toNat s1 e1 = x at HO HI HLN HST ⊢
      obtain ⟨l, s2, e2⟩ := x
      replace HLN := Aside0.mk (show l.length ≤ 512 from HLN.out)
      have HC := Aside0.mk (take1_calls g q s2 e2 w0 wr HI.out HB.out (keep_blk HK.out HQ.out nq))
      clear hi h0
      go_wp2_with (first
       | (go_at_call 47; refine HC.out.mono ?_; rintro en w3 ⟨rfl, h1, h2, h3⟩; have HO3 := Aside0.mk (HO.out.keep h3 hgB); have HI3 := Aside0.mk h1; have HB3 := Aside0.mk h2; have HK3 := Aside0.mk (HK.out.trans h3 (.inl rfl)); clear h1 h2 h3)
       | (at_builtin; refine wl_appN ⟨_, 0, none⟩ 1 [(rdNode s2 e2).1] _ _ rfl rfl rfl (HO3.out.alloc _) (by have := HK3.out.1; simp at this ⊢; omega) (box_cells _ _) (by have := HLN.out; simp; omega) ?_; intro v1 w4 h1 h2 h3; have HBw := Aside0.mk (below_alloc HB3.out (.cells (nC (rdNode s2 e2).1) 72)); have HIw := Aside0.mk (HI3.out.below (below_alloc (Below.refl w3.heap.size w3) (.cells (nC (rdNode s2 e2).1) 72))); have HKw := Aside0.mk (HK3.out.trans (KeepBut.of_below (below_alloc (Below.refl w3.heap.size w3) (.cells (nC (rdNode s2 e2).1) 72)) g none) (.inl rfl)); have HO4 := Aside0.mk h1; have HI4 := Aside0.mk (show IsS107 w0 w4 g true _ _ from ⟨(h2 g hgB).trans HIw.out.1, HIw.out.2⟩); have HB4 := Aside0.mk (h3 HBw.out hge); have HK4 := Aside0.mk (show KeepBut w w4 g none from ⟨Nat.le_trans HKw.out.1 (h3 (Below.refl 0 _) (Nat.zero_le _)).size, fun i_ hi_ hg_ hr_ => (h2 i_ hi_).trans (HKw.out.2 i_ hi_ hg_ hr_)⟩); clear h1 h2 h3))
      go_roundg k1
      case measure => exact Nat.lt_succ_self _
      case rel =>
       refine ⟨i + 1, _, HR1, (by first | rfl | rw [hw1]), rfl, ⟨?_⟩, ⟨?_⟩, HB4, HK4⟩
       · rw [HST.out]; exact HO4.out
       · rw [HST.out]; exact HI4.out
    · have b0 : decide (i < n) = false := decide_eq_false hi
      have HE2 := Aside0.mk (show i.toNat = n.toNat by have := HR.out; omega)
      clear hi h0
      go_wp2
      go_ret2
      rw [HE.out, ← HE2.out]
      exact ⟨_, rfl, HO.out, HI.out, HB.out, HK.out⟩
set_option maxHeartbeats 8000000 in
set_option maxRecDepth 100000 in
theorem some2_calls (g q : Nat) (s : ByteArray) (e : Int) (w0 w : World) (hI : IsS107 w0 w g true s e) (hB : Below w0.heap.size w0 w) (hq : BoxIn w q g) :
 Calls Tryd.prog 49 #[.pointer (some ⟨g, 0, none⟩), .int .i64 512, .func (.func 50) #[] #[.pointer (some ⟨q, 0, none⟩)]] w fun en w' => ∃ v, en = .returned (.tuple #[v, .bool (someO s e).2.1]) ∧ OpsAt w' w.heap.size v (someO s e).1 ∧ IsS107 w0 w' g true (someO s e).2.2.1 (someO s e).2.2.2 ∧ Below w0.heap.size w0 w' ∧ KeepBut w w' g none := by
 have hu := Tryd.underlying25
 have nq := in_ne hI hq
 have hgB : g < w.heap.size := blk_lt hI.1
 have HQ := Aside0.mk hq
 have hge : w0.heap.size ≤ w.heap.size := hB.size
 have HC := Aside0.mk (code_In_Num.calls 20 g true s e _ _ _ _ w0 w hI hB (rdNum_is s e))
 have HSD := Aside0.mk (show someO s e = if (rdNum s e).1 > 512 then ([], false, (rdNum s e).2) else ((rdOpns (rdNum s e).1.toNat (rdNum s e).2.1 (rdNum s e).2.2).1, true, (rdOpns (rdNum s e).1.toNat (rdNum s e).2.1 (rdNum s e).2.2).2) from rfl)
 generalize rdNum s e = r at HC HSD ⊢
 obtain ⟨n, s1, e1⟩ := r
 clear hI hB hq
 go_enter Tryd.func49, Tryd.ntmps49
 go_upto_region 2 with (go_at_call 77; refine HC.out.mono ?_; rintro en w1 ⟨rfl, h1, h2, h3⟩)
 have HI := Aside0.mk h1
 have HB := Aside0.mk h2
 have HK := Aside0.mk h3
 clear h1 h2 h3 HC
 by_cases hn : n > 512
 · have d0 : decide (n > 512) = true := decide_eq_true hn
   have d1 : decide ((512 : Int) < n) = true := decide_eq_true hn
   have d2 : ((512 : Int) < n) = True := eq_true hn
   have HE := Aside0.mk (show someO s e = ([], false, (s1, e1)) from HSD.out.trans (if_pos hn))
   clear hn
   go_wp2
   go_ret2
   rw [HE.out]
   exact ⟨_, rfl, OpsAt.of_row (World.ownsRow_nil _ _ _ _), HI.out, HB.out, HK.out⟩
 · have d0 : decide (n > 512) = false := decide_eq_false hn
   have d1 : decide ((512 : Int) < n) = false := decide_eq_false hn
   have d2 : ((512 : Int) < n) = False := eq_false hn
   have HE := Aside0.mk (show someO s e = ((rdOpns n.toNat s1 e1).1, true, (rdOpns n.toNat s1 e1).2) from HSD.out.trans (if_neg hn))
   have HN := Aside0.mk hn
   clear hn
   go_wp2_with fail
   try go_frame
   go_loopg [16, 9] (n.toNat + 1) (fun kq p po wr => ∃ (i : Int) (vo : Value), Aside0 ((kq : Int) + i = (n.toNat : Int) + 1 ∧ 0 ≤ i ∧ i ≤ (n.toNat : Int)) ∧ p = .int .i64 i ∧ po = vo ∧ Aside0 (OpsAt wr w.heap.size vo (rdOpns i.toNat s1 e1).1) ∧ Aside0 (IsS107 w0 wr g true (rdOpns i.toNat s1 e1).2.1 (rdOpns i.toNat s1 e1).2.2) ∧ Aside0 (Below w0.heap.size w0 wr) ∧ Aside0 (KeepBut w wr g none))
   case atStart => exact ⟨0, _, ⟨by omega⟩, rfl, rfl, ⟨OpsAt.of_row (World.ownsRow_nil _ _ _ _)⟩, HI, HB, HK⟩
   case round =>
    clear HI HB HK
    obtain ⟨i, vo, HR, rfl, rfl, HO, HI, HB, HK⟩ := hrel
    obtain ⟨k1, rfl⟩ : ∃ k1, gk = k1 + 1 := ⟨((n.toNat : Int) - i).toNat, by have := HR.out; omega⟩
    have h0 : 0 ≤ i := HR.out.2.1
    by_cases hi : i < n
    · have b0 : decide (i < n) = true := decide_eq_true hi
      have HLN := Aside0.mk (show (rdOpns i.toNat s1 e1).1.length ≤ 512 by rw [rdOpns_len]; have := HN.out; omega)
      have HST := Aside0.mk (show rdOpns (i + 1).toNat s1 e1 = opnStep (rdOpns i.toNat s1 e1) by rw [show (i + 1).toNat = i.toNat + 1 by omega]; rfl)
      have hw1 : wrap64 (i + 1) = i + 1 := by have := HN.out; unfold wrap64; omega
      have HR1 := Aside0.mk (show (k1 : Int) + (i + 1) = (n.toNat : Int) + 1 ∧ 0 ≤ i + 1 ∧ i + 1 ≤ (n.toNat : Int) by have := HR.out; omega)
      generalize rdOpns i.toNat s1 e1 = x at HO HI HLN HST ⊢
      obtain ⟨l, s2, e2⟩ := x
      replace HLN := Aside0.mk (show l.length ≤ 512 from HLN.out)
      have HC := Aside0.mk (take2_calls g q s2 e2 w0 wr HI.out HB.out (keep_blk HK.out HQ.out nq))
      clear hi h0
      go_wp2_with (first
       | (go_at_call 50; refine HC.out.mono ?_; rintro en w3 ⟨rfl, h1, h2, h3⟩; have HO3 := Aside0.mk (HO.out.keep h3 hgB); have HI3 := Aside0.mk h1; have HB3 := Aside0.mk h2; have HK3 := Aside0.mk (HK.out.trans h3 (.inl rfl)); clear h1 h2 h3)
       | (at_builtin; refine wl_appO (ns := [(rdOpn s2 e2).1]) _ _ rfl rfl rfl (HO3.out.row.alloc _) (by have := HK3.out.1; simp at this ⊢; omega) (one_part _ _) (by have := HLN.out; simp; omega) ?_; intro v1 w4 h1 h2 h3; replace h1 := OpsAt.of_row h1; have HBw := Aside0.mk (below_alloc HB3.out (.cells (oC (rdOpn s2 e2).1) 25)); have HIw := Aside0.mk (HI3.out.below (below_alloc (Below.refl w3.heap.size w3) (.cells (oC (rdOpn s2 e2).1) 25))); have HKw := Aside0.mk (HK3.out.trans (KeepBut.of_below (below_alloc (Below.refl w3.heap.size w3) (.cells (oC (rdOpn s2 e2).1) 25)) g none) (.inl rfl)); have HO4 := Aside0.mk h1; have HI4 := Aside0.mk (show IsS107 w0 w4 g true _ _ from ⟨(h2 g hgB).trans HIw.out.1, HIw.out.2⟩); have HB4 := Aside0.mk (h3 HBw.out hge); have HK4 := Aside0.mk (show KeepBut w w4 g none from ⟨Nat.le_trans HKw.out.1 (h3 (Below.refl 0 _) (Nat.zero_le _)).size, fun i_ hi_ hg_ hr_ => (h2 i_ hi_).trans (HKw.out.2 i_ hi_ hg_ hr_)⟩); clear h1 h2 h3))
      go_roundg k1
      case measure => exact Nat.lt_succ_self _
      case rel =>
       refine ⟨i + 1, _, HR1, (by first | rfl | rw [hw1]), rfl, ⟨?_⟩, ⟨?_⟩, HB4, HK4⟩
       · rw [HST.out]; exact HO4.out
       · rw [HST.out]; exact HI4.out
    · have b0 : decide (i < n) = false := decide_eq_false hi
      have HE2 := Aside0.mk (show i.toNat = n.toNat by have := HR.out; omega)
      clear hi h0
      go_wp2
      go_ret2
      rw [HE.out, ← HE2.out]
      exact ⟨_, rfl, HO.out, HI.out, HB.out, HK.out⟩
end Go.Proofs.YtlfgdaiegefjiaaDoor.S
