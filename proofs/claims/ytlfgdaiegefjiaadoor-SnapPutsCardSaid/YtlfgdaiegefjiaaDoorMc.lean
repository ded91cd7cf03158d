/- do, as the machine walks it: what an operation makes of the nodes of a map. -/
import Derived.Test.YtlfgdaiegefjiaaDoorSA
import Derived.Test.YtlfgdaiegefjiaaDoorMA
namespace Go.Proofs.YtlfgdaiegefjiaaDoor.S
open Go.RowKit Go.Proofs.YtlfgdaiegefjiaaDoorW.PrintWords Go.Proofs.YtlfgdaiegefjiaaDoorW.PrintLast Go.Proofs.YtlfgdaiegefjiaaDoorW.PrintMore
set_option linter.unusedVariables false
set_option linter.unusedSimpArgs false
attribute [local go_sem high] mEq field_par
def stp (t w : Int) : Stp := ⟨t, w⟩
/-- A node that moves. -/
def moved (k : Nat) (l : List Nod) (nd par : Stp) : Option (List Nod) :=
 if has l nd = false then some l
 else if (has l par || outerB par) = false then some l
 else (bel l nd k par).map fun r => if r then l else put l ⟨(look l nd).f0, par, (look l nd).f2, (look l nd).f3⟩
theorem look_id {l : List Nod} {s : Stp} (h : has l s = true) : (look l s).f0 = s := by
 unfold has at h
 unfold look
 cases hx : lk l s with
 | none => rw [hx] at h; simp at h
 | some y =>
  obtain ⟨j, n⟩ := y
  exact (lk_some hx).2
theorem look_parts {l : List Nod} {s : Stp} (h : has l s = true) : ∃ p0 n0 v0, look l s = ⟨s, p0, n0, v0⟩ := by
 have := look_id h
 cases hx : look l s with
 | mk a b c d =>
  rw [hx] at this
  exact ⟨b, c, d, by rw [← this]⟩
def Does (b : Nat) (l l' : List Nod) (o : List Value) : Prop := ∀ w : World, Lies w b l →
 Calls Tryd.prog 101 #[.map (some b), .agg o.toArray] w fun e w' => e = .returned (.tuple #[]) ∧ Lies w' b l' ∧ Stay w w' (· = b)
theorem two_new (w : World) (o o' : Obj) : ((w.alloc o).alloc o').heap[w.heap.size]? = some o ∧ ((w.alloc o).alloc o').heap[w.heap.size + 1]? = some o' := by
 have e : (w.alloc o).heap.size = w.heap.size + 1 := by simp
 exact ⟨(heap_alloc_old _ _ (by rw [e]; omega)).trans (heap_alloc_new _ _), by rw [← e]; exact heap_alloc_new _ _⟩
theorem two_below (w : World) (o o' : Obj) : Below w.heap.size w ((w.alloc o).alloc o') := below_alloc (below_alloc (Below.refl _ _) _) _
set_option maxHeartbeats 8000000 in
set_option maxRecDepth 100000 in
theorem do_create (b : Nat) (l : List Nod) (at0 at1 : Int) (nd par : Stp) (nm vl : ByteArray) :
 Does b l (if has l nd = true then l else if (has l par || outerB par) = true then put l ⟨nd, par, nm, ⟨#[]⟩⟩ else l) [.int .i64 1, .int .i64 at0, .int .i64 at1, .int .i64 nd.f0, .int .i64 nd.f1, .int .i64 par.f0, .int .i64 par.f1, .string nm, .string vl] := by
 intro w hl
 show Calls Tryd.prog 101 #[.map (some b), .agg #[.int .i64 1, .int .i64 at0, .int .i64 at1, .int .i64 nd.f0, .int .i64 nd.f1, .int .i64 par.f0, .int .i64 par.f1, .string nm, .string vl]] w _
 have hu0 := Tryd.underlying25
 have hu1 := Tryd.underlying72
 have HL := Aside0.mk hl
 clear hl
 cases hh : has l nd with
 | true =>
  rw [if_pos rfl]
  go_enter Tryd.func101, Tryd.ntmps101
  go_wp2_with (at_lookup; refine wl_ok b l nd (look l nd) rfl _ _ rfl rfl rfl (HL.out.below (below_alloc (Below.refl _ _) _)) ?_)
  (try simp only [Exit.inBlock, Exit.then]); refine bodyPost_ret (results_none rfl _ _ _) rfl ?_
  exact ⟨rfl, HL.out.below (two_below _ _ _), Stay.of (two_below _ _ _) _⟩
 | false =>
  cases hp : (has l par || outerB par) with
  | false =>
   rw [if_neg (by decide), if_neg (by decide)]
   go_enter Tryd.func101, Tryd.ntmps101
   go_wp2_with (first | (at_lookup; refine wl_ok b l nd (look l nd) rfl _ _ rfl rfl rfl (HL.out.below (below_alloc (Below.refl _ _) _)) ?_) | (go_at_call 108; refine (has_calls b l par _ (HL.out.below (two_below _ _ _))).mono ?_; rintro e w1 ⟨rfl, hb⟩; have HB1 := Aside0.mk (below_step (two_below w (.cells #[.int .i64 1, .int .i64 at0, .int .i64 at1, .int .i64 nd.f0, .int .i64 nd.f1, .int .i64 par.f0, .int .i64 par.f1, .string nm, .string vl] 25) (.cells #[.int .i64 (look l nd).f0.f0, .int .i64 (look l nd).f0.f1, .int .i64 (look l nd).f1.f0, .int .i64 (look l nd).f1.f1, .string (look l nd).f2, .string (look l nd).f3] 72)) hb); have n0_ := Aside0.mk (blk_below (two_new w (.cells #[.int .i64 1, .int .i64 at0, .int .i64 at1, .int .i64 nd.f0, .int .i64 nd.f1, .int .i64 par.f0, .int .i64 par.f1, .string nm, .string vl] 25) (.cells #[.int .i64 (look l nd).f0.f0, .int .i64 (look l nd).f0.f1, .int .i64 (look l nd).f1.f0, .int .i64 (look l nd).f1.f1, .string (look l nd).f2, .string (look l nd).f3] 72)).1 hb); have n1_ := Aside0.mk (blk_below (two_new w (.cells #[.int .i64 1, .int .i64 at0, .int .i64 at1, .int .i64 nd.f0, .int .i64 nd.f1, .int .i64 par.f0, .int .i64 par.f1, .string nm, .string vl] 25) (.cells #[.int .i64 (look l nd).f0.f0, .int .i64 (look l nd).f0.f1, .int .i64 (look l nd).f1.f0, .int .i64 (look l nd).f1.f1, .string (look l nd).f2, .string (look l nd).f3] 72)).2 hb); clear hb; obtain ⟨z0, z1, z2, z3, z4, z5, z6, z7, z8, zf0, zf1, zf2, zf3, zf4, zf5, zf6, zf7, zf8⟩ := Z9 n0_.out; obtain ⟨y0, y1, y2, y3, y4, y5, yf0, yf1, yf2, yf3, yf4, yf5⟩ := Z6 n1_.out))
   (try simp only [Exit.inBlock, Exit.then]); refine bodyPost_ret (results_none rfl _ _ _) rfl ?_
   exact ⟨rfl, HL.out.below HB1.out, Stay.of HB1.out _⟩
  | true =>
   rw [if_neg (by decide), if_pos rfl]
   go_enter Tryd.func101, Tryd.ntmps101
   go_wp2_with (first | (at_lookup; refine wl_ok b l nd (look l nd) rfl _ _ rfl rfl rfl (HL.out.below (below_alloc (Below.refl _ _) _)) ?_) | (go_at_call 108; refine (has_calls b l par _ (HL.out.below (two_below _ _ _))).mono ?_; rintro e w1 ⟨rfl, hb⟩; have HB1 := Aside0.mk (below_step (two_below w (.cells #[.int .i64 1, .int .i64 at0, .int .i64 at1, .int .i64 nd.f0, .int .i64 nd.f1, .int .i64 par.f0, .int .i64 par.f1, .string nm, .string vl] 25) (.cells #[.int .i64 (look l nd).f0.f0, .int .i64 (look l nd).f0.f1, .int .i64 (look l nd).f1.f0, .int .i64 (look l nd).f1.f1, .string (look l nd).f2, .string (look l nd).f3] 72)) hb); have n0_ := Aside0.mk (blk_below (two_new w (.cells #[.int .i64 1, .int .i64 at0, .int .i64 at1, .int .i64 nd.f0, .int .i64 nd.f1, .int .i64 par.f0, .int .i64 par.f1, .string nm, .string vl] 25) (.cells #[.int .i64 (look l nd).f0.f0, .int .i64 (look l nd).f0.f1, .int .i64 (look l nd).f1.f0, .int .i64 (look l nd).f1.f1, .string (look l nd).f2, .string (look l nd).f3] 72)).1 hb); have n1_ := Aside0.mk (blk_below (two_new w (.cells #[.int .i64 1, .int .i64 at0, .int .i64 at1, .int .i64 nd.f0, .int .i64 nd.f1, .int .i64 par.f0, .int .i64 par.f1, .string nm, .string vl] 25) (.cells #[.int .i64 (look l nd).f0.f0, .int .i64 (look l nd).f0.f1, .int .i64 (look l nd).f1.f0, .int .i64 (look l nd).f1.f1, .string (look l nd).f2, .string (look l nd).f3] 72)).2 hb); clear hb; obtain ⟨z0, z1, z2, z3, z4, z5, z6, z7, z8, zf0, zf1, zf2, zf3, zf4, zf5, zf6, zf7, zf8⟩ := Z9 n0_.out; obtain ⟨y0, y1, y2, y3, y4, y5, yf0, yf1, yf2, yf3, yf4, yf5⟩ := Z6 n1_.out) | (at_mapUpdate; refine wl_put b l ⟨nd, par, nm, ⟨#[]⟩⟩ _ _ _ rfl rfl rfl rfl (HL.out.below (by repeat (first | exact HB1.out | refine below_set ?_ (by omega)))) ?_; intro w3 hl3 hs3))
   (try simp only [Exit.inBlock, Exit.then]); refine bodyPost_end (results_none rfl _ _ _) rfl ?_
   exact ⟨rfl, hl3, (Stay.of (by repeat (first | exact HB1.out | refine below_set ?_ (by omega))) _).trans hs3 (fun _ h => .inl h)⟩
set_option maxHeartbeats 8000000 in
set_option maxRecDepth 100000 in
theorem do_move (k : Nat) (l' : List Nod) (b : Nat) (l : List Nod) (at0 at1 : Int) (nd par : Stp) (nm vl : ByteArray) (h : moved k l nd par = some l') :
 Does b l l' [.int .i64 2, .int .i64 at0, .int .i64 at1, .int .i64 nd.f0, .int .i64 nd.f1, .int .i64 par.f0, .int .i64 par.f1, .string nm, .string vl] := by
 intro w hl
 show Calls Tryd.prog 101 #[.map (some b), .agg #[.int .i64 2, .int .i64 at0, .int .i64 at1, .int .i64 nd.f0, .int .i64 nd.f1, .int .i64 par.f0, .int .i64 par.f1, .string nm, .string vl]] w _
 have hu0 := Tryd.underlying25
 have hu1 := Tryd.underlying72
 have HL := Aside0.mk hl
 clear hl
 unfold moved at h
 cases hh : has l nd with
 | false =>
  rw [hh, if_pos rfl] at h
  obtain rfl := Option.some.inj h
  clear h
  go_enter Tryd.func101, Tryd.ntmps101
  go_wp2_with (at_lookup; refine wl_ok b l nd (look l nd) rfl _ _ rfl rfl rfl (HL.out.below (below_alloc (Below.refl _ _) _)) ?_)
  (try simp only [Exit.inBlock, Exit.then]); refine bodyPost_ret (results_none rfl _ _ _) rfl ?_
  exact ⟨rfl, HL.out.below (two_below _ _ _), Stay.of (two_below _ _ _) _⟩
 | true =>
  obtain ⟨p0, n0, v0, hx⟩ : ∃ p0 n0 v0, look l nd = ⟨nd, p0, n0, v0⟩ := look_parts hh
  have HX := Aside0.mk hx
  rw [hh, if_neg (by decide), hx] at h
  clear hx
  cases hp : (has l par || outerB par) with
  | false =>
   rw [hp, if_pos rfl] at h
   obtain rfl := Option.some.inj h
   clear h
   go_enter Tryd.func101, Tryd.ntmps101
   go_wp2_with (first | (at_lookup; refine wl_ok b l nd ⟨nd, p0, n0, v0⟩ HX.out _ _ rfl rfl rfl (HL.out.below (below_alloc (Below.refl _ _) _)) ?_) | (go_at_call 108; refine (has_calls b l par _ (HL.out.below (two_below _ _ _))).mono ?_; rintro e w1 ⟨rfl, hb⟩; have HB1 := Aside0.mk (below_step (two_below w (.cells #[.int .i64 2, .int .i64 at0, .int .i64 at1, .int .i64 nd.f0, .int .i64 nd.f1, .int .i64 par.f0, .int .i64 par.f1, .string nm, .string vl] 25) (.cells #[.int .i64 nd.f0, .int .i64 nd.f1, .int .i64 p0.f0, .int .i64 p0.f1, .string n0, .string v0] 72)) hb); have n0_ := Aside0.mk (blk_below (two_new w (.cells #[.int .i64 2, .int .i64 at0, .int .i64 at1, .int .i64 nd.f0, .int .i64 nd.f1, .int .i64 par.f0, .int .i64 par.f1, .string nm, .string vl] 25) (.cells #[.int .i64 nd.f0, .int .i64 nd.f1, .int .i64 p0.f0, .int .i64 p0.f1, .string n0, .string v0] 72)).1 hb); have n1_ := Aside0.mk (blk_below (two_new w (.cells #[.int .i64 2, .int .i64 at0, .int .i64 at1, .int .i64 nd.f0, .int .i64 nd.f1, .int .i64 par.f0, .int .i64 par.f1, .string nm, .string vl] 25) (.cells #[.int .i64 nd.f0, .int .i64 nd.f1, .int .i64 p0.f0, .int .i64 p0.f1, .string n0, .string v0] 72)).2 hb); clear hb; obtain ⟨z0, z1, z2, z3, z4, z5, z6, z7, z8, zf0, zf1, zf2, zf3, zf4, zf5, zf6, zf7, zf8⟩ := Z9 n0_.out; obtain ⟨y0, y1, y2, y3, y4, y5, yf0, yf1, yf2, yf3, yf4, yf5⟩ := Z6 n1_.out))
   (try simp only [Exit.inBlock, Exit.then]); refine bodyPost_ret (results_none rfl _ _ _) rfl ?_
   exact ⟨rfl, HL.out.below HB1.out, Stay.of HB1.out _⟩
  | true =>
   rw [hp, if_neg (by decide)] at h
   obtain ⟨r, hr, h⟩ := Option.map_eq_some_iff.1 h
   have HK := Aside0.mk hr
   clear hr
   cases r with
   | true =>
    rw [if_pos rfl] at h
    subst h
    go_enter Tryd.func101, Tryd.ntmps101
    go_wp2_with (first | (at_lookup; refine wl_ok b l nd ⟨nd, p0, n0, v0⟩ HX.out _ _ rfl rfl rfl (HL.out.below (below_alloc (Below.refl _ _) _)) ?_) | (go_at_call 108; refine (has_calls b l par _ (HL.out.below (two_below _ _ _))).mono ?_; rintro e w1 ⟨rfl, hb⟩; have HB1 := Aside0.mk (below_step (two_below w (.cells #[.int .i64 2, .int .i64 at0, .int .i64 at1, .int .i64 nd.f0, .int .i64 nd.f1, .int .i64 par.f0, .int .i64 par.f1, .string nm, .string vl] 25) (.cells #[.int .i64 nd.f0, .int .i64 nd.f1, .int .i64 p0.f0, .int .i64 p0.f1, .string n0, .string v0] 72)) hb); have n0_ := Aside0.mk (blk_below (two_new w (.cells #[.int .i64 2, .int .i64 at0, .int .i64 at1, .int .i64 nd.f0, .int .i64 nd.f1, .int .i64 par.f0, .int .i64 par.f1, .string nm, .string vl] 25) (.cells #[.int .i64 nd.f0, .int .i64 nd.f1, .int .i64 p0.f0, .int .i64 p0.f1, .string n0, .string v0] 72)).1 hb); have n1_ := Aside0.mk (blk_below (two_new w (.cells #[.int .i64 2, .int .i64 at0, .int .i64 at1, .int .i64 nd.f0, .int .i64 nd.f1, .int .i64 par.f0, .int .i64 par.f1, .string nm, .string vl] 25) (.cells #[.int .i64 nd.f0, .int .i64 nd.f1, .int .i64 p0.f0, .int .i64 p0.f1, .string n0, .string v0] 72)).2 hb); clear hb; obtain ⟨z0, z1, z2, z3, z4, z5, z6, z7, z8, zf0, zf1, zf2, zf3, zf4, zf5, zf6, zf7, zf8⟩ := Z9 n0_.out; obtain ⟨y0, y1, y2, y3, y4, y5, yf0, yf1, yf2, yf3, yf4, yf5⟩ := Z6 n1_.out) | (go_at_call 109; refine (below_calls b l par nd k true _ (HL.out.below HB1.out) HK.out).mono ?_; rintro e w2 ⟨rfl, hb⟩; have HB2 := Aside0.mk (below_step HB1.out hb); have m0_ := Aside0.mk (blk_below n0_.out hb); have m1_ := Aside0.mk (blk_below n1_.out hb); clear hb z0 z1 z2 z3 z4 z5 z6 z7 z8 zf0 zf1 zf2 zf3 zf4 zf5 zf6 zf7 zf8 y0 y1 y2 y3 y4 y5 yf0 yf1 yf2 yf3 yf4 yf5; obtain ⟨z0, z1, z2, z3, z4, z5, z6, z7, z8, zf0, zf1, zf2, zf3, zf4, zf5, zf6, zf7, zf8⟩ := Z9 m0_.out; obtain ⟨y0, y1, y2, y3, y4, y5, yf0, yf1, yf2, yf3, yf4, yf5⟩ := Z6 m1_.out))
    (try simp only [Exit.inBlock, Exit.then]); refine bodyPost_ret (results_none rfl _ _ _) rfl ?_
    exact ⟨rfl, HL.out.below HB2.out, Stay.of HB2.out _⟩
   | false =>
    rw [if_neg (by decide)] at h
    subst h
    go_enter Tryd.func101, Tryd.ntmps101
    go_wp2_with (first | (at_lookup; refine wl_ok b l nd ⟨nd, p0, n0, v0⟩ HX.out _ _ rfl rfl rfl (HL.out.below (below_alloc (Below.refl _ _) _)) ?_) | (go_at_call 108; refine (has_calls b l par _ (HL.out.below (two_below _ _ _))).mono ?_; rintro e w1 ⟨rfl, hb⟩; have HB1 := Aside0.mk (below_step (two_below w (.cells #[.int .i64 2, .int .i64 at0, .int .i64 at1, .int .i64 nd.f0, .int .i64 nd.f1, .int .i64 par.f0, .int .i64 par.f1, .string nm, .string vl] 25) (.cells #[.int .i64 nd.f0, .int .i64 nd.f1, .int .i64 p0.f0, .int .i64 p0.f1, .string n0, .string v0] 72)) hb); have n0_ := Aside0.mk (blk_below (two_new w (.cells #[.int .i64 2, .int .i64 at0, .int .i64 at1, .int .i64 nd.f0, .int .i64 nd.f1, .int .i64 par.f0, .int .i64 par.f1, .string nm, .string vl] 25) (.cells #[.int .i64 nd.f0, .int .i64 nd.f1, .int .i64 p0.f0, .int .i64 p0.f1, .string n0, .string v0] 72)).1 hb); have n1_ := Aside0.mk (blk_below (two_new w (.cells #[.int .i64 2, .int .i64 at0, .int .i64 at1, .int .i64 nd.f0, .int .i64 nd.f1, .int .i64 par.f0, .int .i64 par.f1, .string nm, .string vl] 25) (.cells #[.int .i64 nd.f0, .int .i64 nd.f1, .int .i64 p0.f0, .int .i64 p0.f1, .string n0, .string v0] 72)).2 hb); clear hb; obtain ⟨z0, z1, z2, z3, z4, z5, z6, z7, z8, zf0, zf1, zf2, zf3, zf4, zf5, zf6, zf7, zf8⟩ := Z9 n0_.out; obtain ⟨y0, y1, y2, y3, y4, y5, yf0, yf1, yf2, yf3, yf4, yf5⟩ := Z6 n1_.out) | (go_at_call 109; refine (below_calls b l par nd k false _ (HL.out.below HB1.out) HK.out).mono ?_; rintro e w2 ⟨rfl, hb⟩; have HB2 := Aside0.mk (below_step HB1.out hb); have m0_ := Aside0.mk (blk_below n0_.out hb); have m1_ := Aside0.mk (blk_below n1_.out hb); clear hb z0 z1 z2 z3 z4 z5 z6 z7 z8 zf0 zf1 zf2 zf3 zf4 zf5 zf6 zf7 zf8 y0 y1 y2 y3 y4 y5 yf0 yf1 yf2 yf3 yf4 yf5; obtain ⟨z0, z1, z2, z3, z4, z5, z6, z7, z8, zf0, zf1, zf2, zf3, zf4, zf5, zf6, zf7, zf8⟩ := Z9 m0_.out; obtain ⟨y0, y1, y2, y3, y4, y5, yf0, yf1, yf2, yf3, yf4, yf5⟩ := Z6 m1_.out) | (at_mapUpdate; refine wl_put b l ⟨nd, par, n0, v0⟩ _ _ _ rfl rfl rfl rfl (HL.out.below (by repeat (first | exact HB2.out | refine below_set ?_ (by omega)))) ?_; intro w3 hl3 hs3))
    (try simp only [Exit.inBlock, Exit.then]); refine bodyPost_end (results_none rfl _ _ _) rfl ?_
    exact ⟨rfl, hl3, (Stay.of (by repeat (first | exact HB2.out | refine below_set ?_ (by omega))) _).trans hs3 (fun _ h => .inl h)⟩
set_option maxHeartbeats 8000000 in
set_option maxRecDepth 100000 in
theorem do_trash (k : Nat) (l' : List Nod) (b : Nat) (l : List Nod) (at0 at1 : Int) (nd par : Stp) (nm vl : ByteArray) (h : moved k l nd (stp 0 1) = some l') :
 Does b l l' [.int .i64 5, .int .i64 at0, .int .i64 at1, .int .i64 nd.f0, .int .i64 nd.f1, .int .i64 par.f0, .int .i64 par.f1, .string nm, .string vl] := by
 intro w hl
 show Calls Tryd.prog 101 #[.map (some b), .agg #[.int .i64 5, .int .i64 at0, .int .i64 at1, .int .i64 nd.f0, .int .i64 nd.f1, .int .i64 par.f0, .int .i64 par.f1, .string nm, .string vl]] w _
 have hu0 := Tryd.underlying25
 have hu1 := Tryd.underlying72
 have HL := Aside0.mk hl
 clear hl
 unfold moved at h
 cases hh : has l nd with
 | false =>
  rw [hh, if_pos rfl] at h
  obtain rfl := Option.some.inj h
  clear h
  go_enter Tryd.func101, Tryd.ntmps101
  go_wp2_with (at_lookup; refine wl_ok b l nd (look l nd) rfl _ _ rfl rfl rfl (HL.out.below (below_alloc (Below.refl _ _) _)) ?_)
  (try simp only [Exit.inBlock, Exit.then]); refine bodyPost_ret (results_none rfl _ _ _) rfl ?_
  exact ⟨rfl, HL.out.below (two_below _ _ _), Stay.of (two_below _ _ _) _⟩
 | true =>
  obtain ⟨p0, n0, v0, hx⟩ : ∃ p0 n0 v0, look l nd = ⟨nd, p0, n0, v0⟩ := look_parts hh
  have HX := Aside0.mk hx
  rw [hh, if_neg (by decide), hx] at h
  clear hx
  cases hp : (has l (stp 0 1) || outerB (stp 0 1)) with
  | false =>
   rw [hp, if_pos rfl] at h
   obtain rfl := Option.some.inj h
   clear h
   go_enter Tryd.func101, Tryd.ntmps101
   go_wp2_with (first | (at_lookup; refine wl_ok b l nd ⟨nd, p0, n0, v0⟩ HX.out _ _ rfl rfl rfl (HL.out.below (below_alloc (Below.refl _ _) _)) ?_) | (go_at_call 108; refine (has_calls b l (stp 0 1) _ (HL.out.below (two_below _ _ _))).mono ?_; rintro e w1 ⟨rfl, hb⟩; have HB1 := Aside0.mk (below_step (two_below w (.cells #[.int .i64 2, .int .i64 at0, .int .i64 at1, .int .i64 nd.f0, .int .i64 nd.f1, .int .i64 0, .int .i64 1, .string nm, .string vl] 25) (.cells #[.int .i64 nd.f0, .int .i64 nd.f1, .int .i64 p0.f0, .int .i64 p0.f1, .string n0, .string v0] 72)) hb); have n0_ := Aside0.mk (blk_below (two_new w (.cells #[.int .i64 2, .int .i64 at0, .int .i64 at1, .int .i64 nd.f0, .int .i64 nd.f1, .int .i64 0, .int .i64 1, .string nm, .string vl] 25) (.cells #[.int .i64 nd.f0, .int .i64 nd.f1, .int .i64 p0.f0, .int .i64 p0.f1, .string n0, .string v0] 72)).1 hb); have n1_ := Aside0.mk (blk_below (two_new w (.cells #[.int .i64 2, .int .i64 at0, .int .i64 at1, .int .i64 nd.f0, .int .i64 nd.f1, .int .i64 0, .int .i64 1, .string nm, .string vl] 25) (.cells #[.int .i64 nd.f0, .int .i64 nd.f1, .int .i64 p0.f0, .int .i64 p0.f1, .string n0, .string v0] 72)).2 hb); clear hb; obtain ⟨z0, z1, z2, z3, z4, z5, z6, z7, z8, zf0, zf1, zf2, zf3, zf4, zf5, zf6, zf7, zf8⟩ := Z9 n0_.out; obtain ⟨y0, y1, y2, y3, y4, y5, yf0, yf1, yf2, yf3, yf4, yf5⟩ := Z6 n1_.out))
   (try simp only [Exit.inBlock, Exit.then]); refine bodyPost_ret (results_none rfl _ _ _) rfl ?_
   exact ⟨rfl, HL.out.below HB1.out, Stay.of HB1.out _⟩
  | true =>
   rw [hp, if_neg (by decide)] at h
   obtain ⟨r, hr, h⟩ := Option.map_eq_some_iff.1 h
   have HK := Aside0.mk hr
   clear hr
   cases r with
   | true =>
    rw [if_pos rfl] at h
    subst h
    go_enter Tryd.func101, Tryd.ntmps101
    go_wp2_with (first | (at_lookup; refine wl_ok b l nd ⟨nd, p0, n0, v0⟩ HX.out _ _ rfl rfl rfl (HL.out.below (below_alloc (Below.refl _ _) _)) ?_) | (go_at_call 108; refine (has_calls b l (stp 0 1) _ (HL.out.below (two_below _ _ _))).mono ?_; rintro e w1 ⟨rfl, hb⟩; have HB1 := Aside0.mk (below_step (two_below w (.cells #[.int .i64 2, .int .i64 at0, .int .i64 at1, .int .i64 nd.f0, .int .i64 nd.f1, .int .i64 0, .int .i64 1, .string nm, .string vl] 25) (.cells #[.int .i64 nd.f0, .int .i64 nd.f1, .int .i64 p0.f0, .int .i64 p0.f1, .string n0, .string v0] 72)) hb); have n0_ := Aside0.mk (blk_below (two_new w (.cells #[.int .i64 2, .int .i64 at0, .int .i64 at1, .int .i64 nd.f0, .int .i64 nd.f1, .int .i64 0, .int .i64 1, .string nm, .string vl] 25) (.cells #[.int .i64 nd.f0, .int .i64 nd.f1, .int .i64 p0.f0, .int .i64 p0.f1, .string n0, .string v0] 72)).1 hb); have n1_ := Aside0.mk (blk_below (two_new w (.cells #[.int .i64 2, .int .i64 at0, .int .i64 at1, .int .i64 nd.f0, .int .i64 nd.f1, .int .i64 0, .int .i64 1, .string nm, .string vl] 25) (.cells #[.int .i64 nd.f0, .int .i64 nd.f1, .int .i64 p0.f0, .int .i64 p0.f1, .string n0, .string v0] 72)).2 hb); clear hb; obtain ⟨z0, z1, z2, z3, z4, z5, z6, z7, z8, zf0, zf1, zf2, zf3, zf4, zf5, zf6, zf7, zf8⟩ := Z9 n0_.out; obtain ⟨y0, y1, y2, y3, y4, y5, yf0, yf1, yf2, yf3, yf4, yf5⟩ := Z6 n1_.out) | (go_at_call 109; refine (below_calls b l (stp 0 1) nd k true _ (HL.out.below HB1.out) HK.out).mono ?_; rintro e w2 ⟨rfl, hb⟩; have HB2 := Aside0.mk (below_step HB1.out hb); have m0_ := Aside0.mk (blk_below n0_.out hb); have m1_ := Aside0.mk (blk_below n1_.out hb); clear hb z0 z1 z2 z3 z4 z5 z6 z7 z8 zf0 zf1 zf2 zf3 zf4 zf5 zf6 zf7 zf8 y0 y1 y2 y3 y4 y5 yf0 yf1 yf2 yf3 yf4 yf5; obtain ⟨z0, z1, z2, z3, z4, z5, z6, z7, z8, zf0, zf1, zf2, zf3, zf4, zf5, zf6, zf7, zf8⟩ := Z9 m0_.out; obtain ⟨y0, y1, y2, y3, y4, y5, yf0, yf1, yf2, yf3, yf4, yf5⟩ := Z6 m1_.out))
    (try simp only [Exit.inBlock, Exit.then]); refine bodyPost_ret (results_none rfl _ _ _) rfl ?_
    exact ⟨rfl, HL.out.below HB2.out, Stay.of HB2.out _⟩
   | false =>
    rw [if_neg (by decide)] at h
    subst h
    go_enter Tryd.func101, Tryd.ntmps101
    go_wp2_with (first | (at_lookup; refine wl_ok b l nd ⟨nd, p0, n0, v0⟩ HX.out _ _ rfl rfl rfl (HL.out.below (below_alloc (Below.refl _ _) _)) ?_) | (go_at_call 108; refine (has_calls b l (stp 0 1) _ (HL.out.below (two_below _ _ _))).mono ?_; rintro e w1 ⟨rfl, hb⟩; have HB1 := Aside0.mk (below_step (two_below w (.cells #[.int .i64 2, .int .i64 at0, .int .i64 at1, .int .i64 nd.f0, .int .i64 nd.f1, .int .i64 0, .int .i64 1, .string nm, .string vl] 25) (.cells #[.int .i64 nd.f0, .int .i64 nd.f1, .int .i64 p0.f0, .int .i64 p0.f1, .string n0, .string v0] 72)) hb); have n0_ := Aside0.mk (blk_below (two_new w (.cells #[.int .i64 2, .int .i64 at0, .int .i64 at1, .int .i64 nd.f0, .int .i64 nd.f1, .int .i64 0, .int .i64 1, .string nm, .string vl] 25) (.cells #[.int .i64 nd.f0, .int .i64 nd.f1, .int .i64 p0.f0, .int .i64 p0.f1, .string n0, .string v0] 72)).1 hb); have n1_ := Aside0.mk (blk_below (two_new w (.cells #[.int .i64 2, .int .i64 at0, .int .i64 at1, .int .i64 nd.f0, .int .i64 nd.f1, .int .i64 0, .int .i64 1, .string nm, .string vl] 25) (.cells #[.int .i64 nd.f0, .int .i64 nd.f1, .int .i64 p0.f0, .int .i64 p0.f1, .string n0, .string v0] 72)).2 hb); clear hb; obtain ⟨z0, z1, z2, z3, z4, z5, z6, z7, z8, zf0, zf1, zf2, zf3, zf4, zf5, zf6, zf7, zf8⟩ := Z9 n0_.out; obtain ⟨y0, y1, y2, y3, y4, y5, yf0, yf1, yf2, yf3, yf4, yf5⟩ := Z6 n1_.out) | (go_at_call 109; refine (below_calls b l (stp 0 1) nd k false _ (HL.out.below HB1.out) HK.out).mono ?_; rintro e w2 ⟨rfl, hb⟩; have HB2 := Aside0.mk (below_step HB1.out hb); have m0_ := Aside0.mk (blk_below n0_.out hb); have m1_ := Aside0.mk (blk_below n1_.out hb); clear hb z0 z1 z2 z3 z4 z5 z6 z7 z8 zf0 zf1 zf2 zf3 zf4 zf5 zf6 zf7 zf8 y0 y1 y2 y3 y4 y5 yf0 yf1 yf2 yf3 yf4 yf5; obtain ⟨z0, z1, z2, z3, z4, z5, z6, z7, z8, zf0, zf1, zf2, zf3, zf4, zf5, zf6, zf7, zf8⟩ := Z9 m0_.out; obtain ⟨y0, y1, y2, y3, y4, y5, yf0, yf1, yf2, yf3, yf4, yf5⟩ := Z6 m1_.out) | (at_mapUpdate; refine wl_put b l ⟨nd, (stp 0 1), n0, v0⟩ _ _ _ rfl rfl rfl rfl (HL.out.below (by repeat (first | exact HB2.out | refine below_set ?_ (by omega)))) ?_; intro w3 hl3 hs3))
    (try simp only [Exit.inBlock, Exit.then]); refine bodyPost_end (results_none rfl _ _ _) rfl ?_
    exact ⟨rfl, hl3, (Stay.of (by repeat (first | exact HB2.out | refine below_set ?_ (by omega))) _).trans hs3 (fun _ h => .inl h)⟩
set_option maxHeartbeats 8000000 in
set_option maxRecDepth 100000 in
theorem do_rename (b : Nat) (l : List Nod) (at0 at1 : Int) (nd par : Stp) (nm vl : ByteArray) :
 Does b l (if has l nd = true then put l ⟨(look l nd).f0, (look l nd).f1, nm, (look l nd).f3⟩ else l) [.int .i64 3, .int .i64 at0, .int .i64 at1, .int .i64 nd.f0, .int .i64 nd.f1, .int .i64 par.f0, .int .i64 par.f1, .string nm, .string vl] := by
 intro w hl
 show Calls Tryd.prog 101 #[.map (some b), .agg #[.int .i64 3, .int .i64 at0, .int .i64 at1, .int .i64 nd.f0, .int .i64 nd.f1, .int .i64 par.f0, .int .i64 par.f1, .string nm, .string vl]] w _
 have hu0 := Tryd.underlying25
 have hu1 := Tryd.underlying72
 have HL := Aside0.mk hl
 clear hl
 cases hh : has l nd with
 | false =>
  rw [if_neg (by decide)]
  go_enter Tryd.func101, Tryd.ntmps101
  go_wp2_with (at_lookup; refine wl_ok b l nd (look l nd) rfl _ _ rfl rfl rfl (HL.out.below (below_alloc (Below.refl _ _) _)) ?_)
  (try simp only [Exit.inBlock, Exit.then]); refine bodyPost_ret (results_none rfl _ _ _) rfl ?_
  exact ⟨rfl, HL.out.below (two_below _ _ _), Stay.of (two_below _ _ _) _⟩
 | true =>
  obtain ⟨p0, n0, v0, hx⟩ : ∃ p0 n0 v0, look l nd = ⟨nd, p0, n0, v0⟩ := look_parts hh
  have HX := Aside0.mk hx
  rw [if_pos rfl, hx]
  clear hx
  go_enter Tryd.func101, Tryd.ntmps101
  go_wp2_with (first | (at_lookup; refine wl_ok b l nd ⟨nd, p0, n0, v0⟩ HX.out _ _ rfl rfl rfl (HL.out.below (below_alloc (Below.refl _ _) _)) ?_) | (at_mapUpdate; refine wl_put b l ⟨nd, p0, nm, v0⟩ _ _ _ rfl rfl rfl rfl (HL.out.below (by repeat (first | exact (two_below _ _ _) | refine below_set ?_ (by omega)))) ?_; intro w3 hl3 hs3))
  (try simp only [Exit.inBlock, Exit.then]); refine bodyPost_end (results_none rfl _ _ _) rfl ?_
  exact ⟨rfl, hl3, (Stay.of (by repeat (first | exact (two_below _ _ _) | refine below_set ?_ (by omega))) _).trans hs3 (fun _ h => .inl h)⟩
set_option maxHeartbeats 8000000 in
set_option maxRecDepth 100000 in
theorem do_set (b : Nat) (l : List Nod) (at0 at1 : Int) (nd par : Stp) (nm vl : ByteArray) :
 Does b l (if has l nd = true then put l ⟨(look l nd).f0, (look l nd).f1, (look l nd).f2, vl⟩ else l) [.int .i64 4, .int .i64 at0, .int .i64 at1, .int .i64 nd.f0, .int .i64 nd.f1, .int .i64 par.f0, .int .i64 par.f1, .string nm, .string vl] := by
 intro w hl
 show Calls Tryd.prog 101 #[.map (some b), .agg #[.int .i64 4, .int .i64 at0, .int .i64 at1, .int .i64 nd.f0, .int .i64 nd.f1, .int .i64 par.f0, .int .i64 par.f1, .string nm, .string vl]] w _
 have hu0 := Tryd.underlying25
 have hu1 := Tryd.underlying72
 have HL := Aside0.mk hl
 clear hl
 cases hh : has l nd with
 | false =>
  rw [if_neg (by decide)]
  go_enter Tryd.func101, Tryd.ntmps101
  go_wp2_with (at_lookup; refine wl_ok b l nd (look l nd) rfl _ _ rfl rfl rfl (HL.out.below (below_alloc (Below.refl _ _) _)) ?_)
  (try simp only [Exit.inBlock, Exit.then]); refine bodyPost_ret (results_none rfl _ _ _) rfl ?_
  exact ⟨rfl, HL.out.below (two_below _ _ _), Stay.of (two_below _ _ _) _⟩
 | true =>
  obtain ⟨p0, n0, v0, hx⟩ : ∃ p0 n0 v0, look l nd = ⟨nd, p0, n0, v0⟩ := look_parts hh
  have HX := Aside0.mk hx
  rw [if_pos rfl, hx]
  clear hx
  go_enter Tryd.func101, Tryd.ntmps101
  go_wp2_with (first | (at_lookup; refine wl_ok b l nd ⟨nd, p0, n0, v0⟩ HX.out _ _ rfl rfl rfl (HL.out.below (below_alloc (Below.refl _ _) _)) ?_) | (at_mapUpdate; refine wl_put b l ⟨nd, p0, n0, vl⟩ _ _ _ rfl rfl rfl rfl (HL.out.below (by repeat (first | exact (two_below _ _ _) | refine below_set ?_ (by omega)))) ?_; intro w3 hl3 hs3))
  (try simp only [Exit.inBlock, Exit.then]); refine bodyPost_end (results_none rfl _ _ _) rfl ?_
  exact ⟨rfl, hl3, (Stay.of (by repeat (first | exact (two_below _ _ _) | refine below_set ?_ (by omega))) _).trans hs3 (fun _ h => .inl h)⟩
end Go.Proofs.YtlfgdaiegefjiaaDoor.S
