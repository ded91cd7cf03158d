/- Sixteen words behind a quarter round of four of them (the reference's), as the machine walks it. -/
import Derived.Test.YtlipgfahjmgekaaHc
namespace Go.Proofs.Ytlipgfahjmgekaa.S
open Go.RowKit Go.Proofs.YtlipgfahjmgekaaW.PrintWords Go.Proofs.YtlipgfahjmgekaaW.PrintLast Go.Proofs.YtlipgfahjmgekaaW.PrintMore
attribute [local go_sem] max2_int min2_int max_two min_two max_three min_three max_four min_four
set_option linter.unusedVariables false
set_option linter.unusedSimpArgs false

theorem bcell {W w1 : World} (hb : Below W.heap.size W w1) : (∀ b o, b < W.heap.size → w1.cell? ⟨b, o, none⟩ = W.cell? ⟨b, o, none⟩) ∧ (∀ b o, b < W.heap.size → w1.frozen? ⟨b, o, none⟩ = W.frozen? ⟨b, o, none⟩) :=
  ⟨fun b o h => hb.cell (p := ⟨b, o, none⟩) h, fun b o h => hb.frozen (p := ⟨b, o, none⟩) h⟩
theorem cells_of {w : World} {p0 p1 p2 p3 : Addr} {v0 v1 v2 v3 : Value} {W : World} (h0 : w.cell? p0 = some v0) (h1 : w.cell? p1 = some v1) (h2 : w.cell? p2 = some v2) (h3 : w.cell? p3 = some v3) (hb : Below w.heap.size w W) :
    (W.cell? p0 = some v0 ∧ W.cell? p1 = some v1 ∧ W.cell? p2 = some v2 ∧ W.cell? p3 = some v3) ∧ Below w.heap.size w W :=
  ⟨⟨pw_cell_below hb h0, pw_cell_below hb h1, pw_cell_below hb h2, pw_cell_below hb h3⟩, hb⟩
set_option maxHeartbeats 8000000 in
set_option maxRecDepth 100000 in
theorem round24 (ad : Addr) (c0 : Nat) (l0 : List Int) (a b c d : Int) (x0 x1 x2 x3 y0 y1 y2 y3 : Int) (w : World) (hl : Aside0 (l0.length = 16)) (hc0 : 16 ≤ c0)
    (a0 : 0 ≤ a) (a1 : a < 16) (b0 : 0 ≤ b) (b1 : b < 16) (cc0 : 0 ≤ c) (c1 : c < 16) (d0 : 0 ≤ d) (d1 : d < 16)
    (hr : Aside0 (Kd.C (Kd.int .i64) w (some ad) 16 l0))
    (ca : w.cell? (ad.add a.toNat) = some (.int .i64 x0)) (cb : w.cell? (ad.add b.toNat) = some (.int .i64 x1)) (cc : w.cell? (ad.add c.toNat) = some (.int .i64 x2)) (cd : w.cell? (ad.add d.toNat) = some (.int .i64 x3))
    (C10 : ∀ w, Calls Try.prog 10 #[.agg #[.int .i64 x0, .int .i64 x1, .int .i64 x2, .int .i64 x3]] w fun e w' => e = .returned (.agg #[.int .i64 y0, .int .i64 y1, .int .i64 y2, .int .i64 y3]) ∧ Below w.heap.size w w') :
    Calls Try.prog 24 #[.slice (some ad) 16 c0, .int .i64 a, .int .i64 b, .int .i64 c, .int .i64 d] w fun e w' => ∃ v0_ : Value, e = .returned v0_ ∧ Kd.R (Kd.int .i64) 3 w' w.heap.size (fun _ => True) v0_ ((((l0.set a.toNat y0).set b.toNat y1).set c.toNat y2).set d.toNat y3) ∧ Below w.heap.size w w' := by
  have hb0 := Aside0.mk (below_drew (Below.refl w.heap.size w))
  go_enter Try.func24, Try.ntmps24
  go_upto_region 1 with fail
  go_cut [11] (fun s11 wx => ∃ g : Nat, s11 = .pointer (some ⟨g, 0, none⟩) ∧ Aside0 (wx.heap[g]? = some (.cells #[.int .i64 y0, .int .i64 y1, .int .i64 y2, .int .i64 y3] 22 (0, 0))) ∧ Aside0 (w.heap.size ≤ g) ∧ Aside0 (Below w.heap.size w wx))
  case first =>
    go_region_held3 (fun w' => (w'.cell? (ad.add a.toNat) = some (.int .i64 x0) ∧ w'.cell? (ad.add b.toNat) = some (.int .i64 x1) ∧ w'.cell? (ad.add c.toNat) = some (.int .i64 x2) ∧ w'.cell? (ad.add d.toNat) = some (.int .i64 x3)) ∧ Below w.heap.size w w')
      (first | exact cells_of ca cb cc cd hb0.out | exact cells_of ca cb cc cd (below_alloc hb0.out _) | exact cells_of ca cb cc cd (below_then hb0.out hb0.out.size hb1) | exact cells_of ca cb cc cd (below_alloc (below_then hb0.out hb0.out.size hb1) _) | exact cells_of ca cb cc cd (below_then (below_alloc hb0.out _) (below_alloc hb0.out _).size hb1) | exact cells_of ca cb cc cd (below_set (below_set (below_set (below_set (below_then (below_alloc hb0.out _) (below_alloc hb0.out _).size hb1) (by simp)) (by simp)) (by simp)) (by simp)))
      (first | (go_at_call 10; refine (C10 _).mono ?_; rintro e w1 ⟨rfl, hb1⟩; obtain ⟨hcx, hfx⟩ := bcell hb1))
    · go_wp2_with fail
      go_meet
      exact ⟨w1.heap.size, rfl, ⟨heap_alloc_new w1 _⟩, ⟨hb1.size⟩, ⟨below_alloc (below_then hb0.out hb0.out.size hb1) _⟩⟩
    · go_wp2_with fail
      go_meet
      have hb2 := below_then (below_alloc hb0.out (.cells #[.int .i64 0, .int .i64 0, .int .i64 0, .int .i64 0] 22)) (below_alloc hb0.out _).size hb1
      have hh : w1.heap[w.heap.size]? = some (.cells #[.int .i64 0, .int .i64 0, .int .i64 0, .int .i64 0] 22 (0, 0)) := (hb1.block w.heap.size (by simp)).trans (heap_alloc_new w.drew _)
      exact ⟨w.heap.size, rfl, ⟨blk_set (blk_set (blk_set (blk_set hh 0 _) 1 _) 2 _) 3 _⟩, ⟨Nat.le_refl _⟩, ⟨below_set (below_set (below_set (below_set hb2 (Nat.le_refl _)) (Nat.le_refl _)) (Nat.le_refl _)) (Nat.le_refl _)⟩⟩
  case rest =>
    obtain ⟨g, rfl, hg, hge, hB⟩ := hcut
    have hCx := Aside0.mk (Kd.C_below hr.out hB.out)
    have hsz := hB.out.size
    have hlt := (Array.getElem?_eq_some_iff.1 hg.out).1
    have HO0 := Aside0.mk (Kd.R_nil (Kd.int .i64) 3 wc w.heap.size (fun _ => True))
    clear ca cb cc cd C10
    go_upto_region 4 with (at_builtin; refine Kd.R_append_row (w0 := w) (Value.int .i64) (0 : Int) w.heap.size rfl (.tmp 31) (.tmp 32) 43 3 (.int .i64 0) 8 rfl Try.underlying43 info3 rfl (by decide) (.slice none 0 0) [] l0 (some ad) 16 c0 (fun _ => True) rfl rfl (fun _ _ => trivial) HO0.out hCx.out hB.out hsz (by have := hl.out; decide) ?_; intro v1 w1 hR1 hB1 hgr hat)
    simp only [List.nil_append] at hR1
    have hL := hl.out
    obtain ⟨g1, cap, hv1, hg1, hg1l, cells, hcells⟩ := Kd.R_form hR1 (by omega)
    rw [hL] at hv1
    subst hv1
    clear hl
    have hgg : w1.heap[g]? = some (.cells #[.int .i64 y0, .int .i64 y1, .int .i64 y2, .int .i64 y3] 22 (0, 0)) := (hgr.block g hlt (by simp [Value.ownBlock])).trans hg.out
    have hne : g ≠ g1 := by
      intro he
      rw [← he, hgg] at hcells
      injection hcells with h1
      injection h1 with _ h2
      exact absurd h2 (by decide)
    obtain ⟨hcap⟩ : Nonempty (16 ≤ cap) := ⟨by have := (Kd.R_reads' hR1).2.1; omega⟩
    have s0 := Kd.R_celln (0 : Int) hR1 a a0 (by omega)
    have q0 := (blk_cell hgg 0).trans (show _ = some (Value.int .i64 y0) from rfl)
    have hR2 := Kd.R_putn hR1 a y0
    have hq1 := blk_far hgg (p := ⟨g1, a.toNat, none⟩) hne (.int .i64 y0)
    have s1 := Kd.R_celln (0 : Int) hR2 b b0 (by omega)
    have q1 := (blk_cell hq1 1).trans (show _ = some (Value.int .i64 y1) from rfl)
    have hR3 := Kd.R_putn hR2 b y1
    have hq2 := blk_far hq1 (p := ⟨g1, b.toNat, none⟩) hne (.int .i64 y1)
    have s2 := Kd.R_celln (0 : Int) hR3 c cc0 (by omega)
    have q2 := (blk_cell hq2 2).trans (show _ = some (Value.int .i64 y2) from rfl)
    have hR4 := Kd.R_putn hR3 c y2
    have hq3 := blk_far hq2 (p := ⟨g1, c.toNat, none⟩) hne (.int .i64 y2)
    have s3 := Kd.R_celln (0 : Int) hR4 d d0 (by omega)
    have q3 := (blk_cell hq3 3).trans (show _ = some (Value.int .i64 y3) from rfl)
    have hR5 := Kd.R_putn hR4 d y3
    have hq4 := blk_far hq3 (p := ⟨g1, d.toNat, none⟩) hne (.int .i64 y3)
    obtain ⟨s0, f0⟩ := s0
    obtain ⟨s1, f1⟩ := s1
    obtain ⟨s2, f2⟩ := s2
    obtain ⟨s3, f3⟩ := s3
    have HR5 := Aside0.mk hR5
    have HB1 := Aside0.mk hB1
    clear hR1 hR2 hR3 hR4 hR5 hq1 hq2 hq3 hq4 hgg hcells hgr hat hB1 hCx HO0 hg hL hr
    go_wp2
    go_ret
    exact ⟨_, rfl, HR5.out, below_set (below_set (below_set (below_set HB1.out hg1) hg1) hg1) hg1⟩
end Go.Proofs.Ytlipgfahjmgekaa.S
