/- The law TreeRooted. -/
import Derived.Test.YtiffeljmeahmkaaDoorOb
import Derived.Test.YtiffeljmeahmkaaDoorMy
namespace Go.Proofs.YtiffeljmeahmkaaDoor.S
open Go.RowKit Go.Proofs.YtiffeljmeahmkaaDoorW.PrintWords Go.Proofs.YtiffeljmeahmkaaDoorW.PrintLast Go.Proofs.YtiffeljmeahmkaaDoorW.PrintMore
set_option linter.unusedVariables false
set_option linter.unusedSimpArgs false
/-- A law's own tree, which began with nothing. -/
structure FrAt (w wr : World) (g f n : Nat) (v : Value) (T : Tr) : Prop where
  tree : TreeAt wr w.heap.size g f n v T
  fresh : Fresh T
  below : Below w.heap.size w wr
theorem FrAt.under {w wr w' : World} {g f n : Nat} {v : Value} {T : Tr} (h : FrAt w wr g f n v T) (hb : Below wr.heap.size wr w') : FrAt w w' g f n v T :=
  ⟨h.tree.below hb, h.fresh, below_then h.below h.below.size hb⟩
theorem FrAt.step {w wr w' : World} {g f n : Nat} {v v' : Value} {T T' : Tr} (h : FrAt w wr g f n v T) (ht : TreeAt w' w.heap.size g f n v' T') (hf : Fresh T') (h4 : Stay wr w' (foot g f n v)) : FrAt w w' g f n v' T' :=
  ⟨ht, hf, h.tree.back h4 h.below⟩
theorem FrAt.set2 {w wr : World} {g f n x : Nat} {v : Value} {T : Tr} (h : FrAt w wr g f n v T) (hx : w.heap.size ≤ x) (hf : ¬ foot g f n v x) (a b : Int) : FrAt w ((wr.setCell ⟨x, 0, none⟩ (.int .i64 a)).setCell ⟨x, 1, none⟩ (.int .i64 b)) g f n v T :=
  ⟨h.tree.stay ((Stay.cell wr ⟨x, 0, none⟩ (.int .i64 a)).trans (Stay.cell _ ⟨x, 1, none⟩ (.int .i64 b)) (fun _ hk => .inl hk)) (fun k hk e => hf (by rw [← show k = x from e]; exact hk)), h.fresh, below_set (below_set h.below hx) hx⟩
theorem NodesAt.readsA {w : World} {B c : Nat} {A : Option Addr} {l : List Nod} (h : NodesAt w B (.slice A l.length c) l) : l.length ≤ c ∧ Kd.C k36 w A l.length l := by
  obtain ⟨A', c', e, h1, h2⟩ := h.reads
  cases e
  exact ⟨h1, h2⟩
theorem NodesAt.own_ne {w : World} {B : Nat} {v : Value} {l : List Nod} (h : NodesAt w B v l) : v.ownBlock ≠ some w.heap.size := by
  intro e
  rcases h.2 with ⟨rfl, _⟩ | ⟨q, c, cur, rfl, hB, hc, _⟩
  · cases e
  · have := blk_lt hc
    simp [Value.ownBlock] at e
    omega
theorem NodesAt.set2 {w : World} {B b : Nat} {v : Value} {l : List Nod} (h : NodesAt w B v l) (hb : v.ownBlock ≠ some b) (x y : Int) : NodesAt ((w.setCell ⟨b, 0, none⟩ (.int .i64 x)).setCell ⟨b, 1, none⟩ (.int .i64 y)) B v l :=
  World.ownsRow.kept (World.ownsRow.kept h (Stay.grown (Stay.cell w ⟨b, 0, none⟩ (.int .i64 x))) (.inr hb)) (Stay.grown (Stay.cell _ ⟨b, 1, none⟩ (.int .i64 y))) (.inr hb)
/-- Where the law's walk stands behind s steps: at a node, or outside. -/
inductive RtPath (l : List Nod) (n : Nat) : Nat → Stp → Prop where
  | node (s : Nat) (q : Stp) : s < n → has l q = true → 1 ≤ q.f0 → RtPath l n (s + 1) (look l q).f1 → RtPath l n s q
  | out (s : Nat) (q : Stp) : s ≤ n → q.f0 = 0 → (q.f1 = 0 ∨ q.f1 = 1) → RtPath l n s q
theorem RtPath.cases {l : List Nod} {n s : Nat} {q : Stp} (h : RtPath l n s q) : (s < n ∧ has l q = true ∧ 1 ≤ q.f0 ∧ RtPath l n (s + 1) (look l q).f1) ∨ (s ≤ n ∧ q.f0 = 0 ∧ (q.f1 = 0 ∨ q.f1 = 1)) := by
  cases h with
  | node _ _ a b c d => exact .inl ⟨a, b, c, d⟩
  | out _ _ a b c => exact .inr ⟨a, b, c⟩
theorem rt_path {l : List Nod} (hr : Rooted l) (hi : ∀ m ∈ l, 1 ≤ m.f0.f0) (n : Nat) : ∀ (d s : Nat) (q : Stp), exact_ l d q → s + d ≤ n → (has l q || outerB q) = true → RtPath l n s q
  | 0, s, q, h, hs, hq => by
    have h0 := exact_zero h
    unfold outerB at h0
    simp only [Bool.and_eq_true, Bool.or_eq_true, beq_iff_eq] at h0
    exact .out s q (by omega) h0.1 h0.2
  | d + 1, s, q, h, hs, hq => by
    obtain ⟨h0, h1⟩ := exact_succ h
    have hh : has l q = true := by rw [h0, Bool.or_false] at hq; exact hq
    obtain ⟨hm, he⟩ := look_mem hh
    refine .node s q (by omega) hh (by have := hi _ hm; rwa [he] at this) (rt_path hr hi n d (s + 1) _ h1 (by omega) (hr.par _ hm))
theorem rt_start {T : Tr} (h : Fresh T) {ln : List Nod} (hp : ln.Perm T.now) {x : Int} (h0 : 0 ≤ x) (h1 : x < ln.length) : RtPath T.now ln.length 0 (rd_T36 ln x).f1 := by
  obtain ⟨i, rfl⟩ : ∃ i : Nat, x = i := ⟨x.toNat, by omega⟩
  have hi : i < ln.length := by omega
  rw [rdN_at ln i hi, getElem!_pos ln i hi]
  have hm : ln[i] ∈ T.now := hp.mem_iff.1 (List.getElem_mem hi)
  have hr := h.good.rooted
  have hpar := hr.par _ hm
  obtain ⟨d, hd, he⟩ := exact_is hr hpar
  exact rt_path hr h.ids _ d 0 _ he (by rw [hp.length_eq]; omega) hpar
theorem rt_w {s n : Nat} (h : s < n) (hn : n ≤ 512) : wrap64 ((s : Int) + 1) = (s : Int) + 1 := by unfold wrap64; omega
theorem rt_k {k3 : Nat} {x n : Int} (h : ((k3 + 1 : Nat) : Int) + x = n + 1 ∧ 0 ≤ x ∧ x ≤ n) (h1 : x < n) : (k3 : Int) + (x + 1) = n + 1 ∧ 0 ≤ x + 1 ∧ x + 1 ≤ n := by omega
theorem rt_less {T : Tr} (h : Fresh T) {ln : List Nod} (hp : ln.Perm T.now) (ho : OrdN ln) {x y : Int} (h0 : 0 ≤ y) (hxy : x = y + 1) (h1 : x < ln.length) : samphireref10_Less.f (rd_T36 ln y).f0.f0 (rd_T36 ln y).f0.f1 (rd_T36 ln x).f0.f0 (rd_T36 ln x).f0.f1 = some true := by
  obtain ⟨i, rfl⟩ : ∃ i : Nat, y = i := ⟨y.toNat, by omega⟩
  subst hxy
  rw [ref10_less]
  have e : ((i : Int) + 1) = ((i + 1 : Nat) : Int) := by omega
  rw [e, rdN_at ln i (by omega), rdN_at ln (i + 1) (by omega)]
  rw [ho.strict ((hp.map _).nodup_iff.2 (now_nodup h.good)) (Nat.lt_succ_self i) (by omega)]
-- TABLE BEGIN
def rooted_.T12 : Bool × List (List Nat × List Nat) := (true, [([], []), ([0], [0]), ([1], [1]), ([2], [2]), ([2], [2]), ([4, 2], [2, 4]), ([3, 5, 2], [2, 3, 5]), ([6, 2], [2, 6]), ([7, 2], [2, 7]), ([2], [2]), ([2], [2]), ([9, 10, 2], [2, 9, 10]), ([11, 2], [2, 11]), ([12, 2], [2, 12]), ([8, 13, 2, 2], [2, 8, 13]), ([14, 2], [2, 14]), ([2, 15], [2, 15])])
def rooted_.B12 : List Nat := [0, 1, 3, 7, 7, 23, 63, 127, 255, 7, 7, 1543, 3591, 7687, 16383, 32767, 65535]
theorem rooted_.tab12 : rtab .any (opsOf Tryd.f8 12) = rooted_.T12 := by kernel_rfl
theorem rooted_.bits12 : waitsOk rooted_.T12.2 rooted_.B12 = true := by kernel_rfl
-- TABLE END
set_option maxRecDepth 100000 in
set_option maxHeartbeats 4000000 in
theorem rooted_calls (w : World) (A0 : Option Addr) (c0 : Nat) (l : List Opn) (hr : Kd.C k28 w A0 l.length l) (hc0 : l.length ≤ c0) (hL : Laid w) : Calls Tryd.prog 8 #[.slice A0 l.length c0] w fun e w' => e = .returned (.bool true) ∧ Below w.heap.size w w' := by
  have hu := Tryd.underlying28
  have hu1 := Tryd.underlying25
  have hu2 := Tryd.underlying36
  have HL := Aside0.mk hL
  have HR := Aside0.mk hr
  have HC0 := Aside0.mk hc0
  obtain ⟨kf, rf, hfw, hfew⟩ := few_is l 60 (by decide)
  have HFW := Aside0.mk hfw
  have HFEW := Aside0.mk hfew
  clear hL hr hc0 hfw hfew
  go_enter Tryd.func8, Tryd.ntmps8
  cases rf with
  | false =>
    go_wp2_with (first
      | (go_at_call 12; refine (New_calls _).mono ?_; rintro e w1 ⟨g, f, n, rfl, ht, hb⟩; have HA := Aside0.mk (show FrAt w w1 g f n _ ⟨[], [], [], St0⟩ from ⟨ht, fresh_new, hb⟩); clear ht hb)
      | (go_at_call 20; refine (samphirelaw11_few.calls kf A0 c0 l 60 false _ (Kd.C_below HR.out HA.out.below) HC0.out HFW.out).mono ?_; rintro e w1 ⟨rfl, hb⟩; replace HA := Aside0.mk (HA.out.under hb); clear hb)
      | (go_at_call 16; refine (awake_calls _ (HL.out.below HA.out.below)).mono ?_; rintro e w1 ⟨rfl, hb⟩; replace HA := Aside0.mk (HA.out.under hb); clear hb))
    go_ret
    exact ⟨rfl, HA.out.below⟩
  | true =>
    have HFT := Aside0.mk (HFEW.out rfl)
    clear HFEW
    go_upto_region 4 with (first
      | (go_at_call 12; refine (New_calls _).mono ?_; rintro e w1 ⟨g, f, n, rfl, ht, hb⟩; have HA := Aside0.mk (show FrAt w w1 g f n _ ⟨[], [], [], St0⟩ from ⟨ht, fresh_new, hb⟩); clear ht hb)
      | (go_at_call 20; refine (samphirelaw11_few.calls kf A0 c0 l 60 true _ (Kd.C_below HR.out HA.out.below) HC0.out HFW.out).mono ?_; rintro e w1 ⟨rfl, hb⟩; replace HA := Aside0.mk (HA.out.under hb); clear hb))
    go_wp2_with fail
    try go_frame
    go_loopg [4] (l.length + 1) (fun kq p wr => ∃ (x : Int) (v : Value) (T : Tr), Aside0 ((kq : Int) + x = (l.length : Int) + 1 ∧ 0 ≤ x ∧ x ≤ (l.length : Int)) ∧ p = .int .i64 x ∧ Aside0 (FrAt w wr g f n v T))
    case atStart => exact ⟨0, _, _, ⟨by omega⟩, rfl, HA⟩
    case round =>
      clear HA
      obtain ⟨x, v, T, HK, rfl, HA⟩ := hrel
      obtain ⟨k1, rfl⟩ : ∃ k1, gk = k1 + 1 := ⟨((l.length : Int) - x).toNat, by have := HK.out; omega⟩
      have h0 : 0 ≤ x := HK.out.2.1
      by_cases hx : x < (l.length : Int)
      · have b1 : decide (x < (l.length : Int)) = true := decide_eq_true hx
        obtain ⟨ad, e, x0, x1, x2, x3, x4, x5, x6, x7, x8⟩ := at_T28 (Kd.C_below HR.out HA.out.below) x h0 hx
        cases e
        have p1 := eq_true h0
        have q1 := eq_true hx
        have hw1 : wrap64 (x + 1) = x + 1 := by have := HFT.out.1; unfold wrap64; omega
        obtain ⟨r, hr, hrf⟩ := check_any (rd_T28 l x) (rd_small HFT.out.2 x)
        have HCK := Aside0.mk hr
        have HRF := Aside0.mk hrf
        have H1 := Aside0.mk hx
        clear hr hrf hx
        go_wp2_with (go_at_call 14; refine (Apply_calls _ _ g f n _ _ (rd_T28 l x) 40 r HA.out.tree HA.out.fresh.good HCK.out (fun e => (HRF.out e).1) (HL.out.below HA.out.below)).mono ?_; rintro e w' ⟨T', v', rfl, ht, hg, h1, h2, h3, h4, h5⟩; have HA' := Aside0.mk (HA.out.step ht (HA.out.fresh.step HRF.out hg h1 h2 h3) h4); clear ht hg h1 h2 h3 h4 h5)
        go_roundg k1
        case measure => exact Nat.lt_succ_self _
        case rel => exact ⟨x + 1, v', T', ⟨by have := HK.out; have := H1.out; omega⟩, (by first | rfl | rw [hw1]), HA'⟩
      · have b1 : decide (x < (l.length : Int)) = false := decide_eq_false hx
        clear hx
        go_upto_region 9 with (go_at_call 28; refine (Nodes_calls _ _ g f n _ T HA.out.tree (Nat.le_trans (now_len HA.out.fresh.good) (by decide))).mono ?_; rintro e w' ⟨v', ln, rfl, hp, ho, hn, hb⟩; replace HA := Aside0.mk (HA.out.under hb); have HP := Aside0.mk hp; have HO := Aside0.mk ho; obtain ⟨B1, hn1⟩ : ∃ B1, NodesAt _ B1 _ _ := ⟨_, hn⟩; obtain ⟨A1, c1, rfl, hc1, hC1⟩ := hn1.reads; have HC1 := Aside0.mk hn1; clear hp ho hn hn1 hb hC1 hc1)
        have HLN := Aside0.mk (show ln.length ≤ 512 by rw [HP.out.length_eq]; exact now_len HA.out.fresh.good)
        go_wp2_with fail
        try go_frame
        go_loopg [6] (ln.length + 1) (fun kq p wr => ∃ (x : Int), Aside0 ((kq : Int) + x = (ln.length : Int) + 1 ∧ 0 ≤ x ∧ x ≤ (ln.length : Int)) ∧ p = .int .i64 x ∧ Aside0 (FrAt w wr g f n v T) ∧ Aside0 (NodesAt wr B1 (.slice A1 ln.length c1) ln))
        case atStart => exact ⟨0, ⟨by omega⟩, rfl, HA, HC1⟩
        case round =>
          clear HA HC1
          obtain ⟨x, HK2, rfl, HA, HC1⟩ := hrel
          obtain ⟨k3, rfl⟩ : ∃ k3, gk = k3 + 1 := ⟨((ln.length : Int) - x).toNat, by have := HK2.out; omega⟩
          have h0 : 0 ≤ x := HK2.out.2.1
          by_cases hx : x < (ln.length : Int)
          · have b1 : decide (x < (ln.length : Int)) = true := decide_eq_true hx
            have H0 := Aside0.mk h0
            have H1 := Aside0.mk hx
            have hw1 : wrap64 (x + 1) = x + 1 := by have := HLN.out; unfold wrap64; omega
            have p1_ := eq_true h0
            have q1_ := eq_true hx
            obtain ⟨ad, e, _⟩ := at_T36 HC1.out.readsA.2 x h0 hx
            cases e
            clear hx h0
            by_cases hx0 : 0 < x
            · have b2 : decide (0 < x) = true := decide_eq_true hx0
              have b3 : (0 < x) = True := eq_true hx0
              obtain ⟨y, hy⟩ : ∃ y, x = y + 1 := ⟨x - 1, by omega⟩
              have hyw : wrap64 (x - 1) = y := by have := HLN.out; have := H1.out; have := H0.out; unfold wrap64; omega
              have HYX := Aside0.mk hy
              have p2_ : (0 ≤ y) = True := eq_true (by omega)
              have q2_ : (y < (ln.length : Int)) = True := eq_true (by have := H1.out; omega)
              have HLS := Aside0.mk (rt_less HA.out.fresh HP.out HO.out (by omega) hy H1.out)
              clear hy hx0
              go_upto_region 12 with fail
              replace HA := Aside0.mk (HA.out.under (Below.refl _ _).drew)
              replace HC1 := Aside0.mk (HC1.out.below (Below.refl _ _).drew)
              obtain ⟨ad1, e, p0, p1, p2, p3, p4, p5⟩ := at_T36 HC1.out.readsA.2 x H0.out H1.out
              cases e
              obtain ⟨ad2, e, q0, q1, q2, q3, q4, q5⟩ := at_T36 HC1.out.readsA.2 y (of_eq_true p2_) (of_eq_true q2_)
              cases e
              refine start_ (n := 17) (S := fun w' => w'.cell? (ad.add (y.toNat * 6)) = some (.int .i64 (rd_T36 ln y).f0.f0) ∧ w'.cell? ⟨(ad.add (y.toNat * 6)).block, (ad.add (y.toNat * 6)).off + 1, none⟩ = some (.int .i64 (rd_T36 ln y).f0.f1) ∧ w'.cell? (ad.add (x.toNat * 6)) = some (.int .i64 (rd_T36 ln x).f0.f0) ∧ w'.cell? ⟨(ad.add (x.toNat * 6)).block, (ad.add (x.toNat * 6)).off + 1, none⟩ = some (.int .i64 (rd_T36 ln x).f0.f1)) (ds := [14]) #[false, false, false, false, false, false, false, false, false, false, false, false, false, false, false, false, false] (by kernel_rfl) rfl rfl ⟨q0, q1, p0, p1⟩ (fun hHeld => ?_)
              refine with_tabW rooted_.tab12 rooted_.bits12 (fun HT_ HW_ => ?_)
              refine pure_ (i := 0) (N := some 44) (v := ?_) (a' := ?_) #[true, false, false, false, false, false, false, false, false, false, false, false, false, false, false, false, false] rfl rfl (any_of HT_.out (by kernel_rfl)) (fun _ _ _ h => h) (Or.inl ⟨by rfl, ?_⟩) ?_ ?_
              rotate_left
              · intro w'
                go_simp
                with_reducible rfl
              rotate_left
              · simp only [Act.put, List.setIfInBounds_toArray, List.set_cons_zero, List.set_cons_succ, i64_w, i32_w]
                rfl
              refine pure_ (i := 1) (N := some 45) (v := ?_) (a' := ?_) #[true, true, false, false, false, false, false, false, false, false, false, false, false, false, false, false, false] rfl rfl (any_of HT_.out (by kernel_rfl)) (fun _ _ _ h => h) (Or.inl ⟨by rfl, ?_⟩) ?_ ?_
              rotate_left
              · intro w'
                go_simp
                with_reducible rfl
              rotate_left
              · simp only [Act.put, List.setIfInBounds_toArray, List.set_cons_zero, List.set_cons_succ, i64_w, i32_w]
                rfl
              refine pure_ (i := 2) (N := some 46) (v := ?_) (a' := ?_) #[true, true, true, false, false, false, false, false, false, false, false, false, false, false, false, false, false] rfl rfl (any_of HT_.out (by kernel_rfl)) (fun _ _ _ h => h) (Or.inl ⟨by rfl, ?_⟩) ?_ ?_
              rotate_left
              · intro w'
                go_simp
                with_reducible rfl
              rotate_left
              · simp only [Act.put, List.setIfInBounds_toArray, List.set_cons_zero, List.set_cons_succ, i64_w, i32_w]
                rfl
              refine pure_ (i := 3) (N := some 47) (v := ?_) (a' := ?_) #[true, true, true, true, false, false, false, false, false, false, false, false, false, false, false, false, false] rfl rfl (any_of HT_.out (by kernel_rfl)) (fun _ _ _ h => h) (Or.inl ⟨by rfl, ?_⟩) ?_ ?_
              rotate_left
              · intro w'
                go_simp
                with_reducible rfl
              rotate_left
              · simp only [Act.put, List.setIfInBounds_toArray, List.set_cons_zero, List.set_cons_succ, i64_w, i32_w]
                rfl
              refine pure_ (i := 4) (N := some 48) (v := ?_) (a' := ?_) #[true, true, true, true, true, false, false, false, false, false, false, false, false, false, false, false, false] rfl rfl (any_of HT_.out (by kernel_rfl)) (fun _ _ _ h => h) (Or.inl ⟨by rfl, ?_⟩) ?_ ?_
              rotate_left
              · intro w'
                go_simp
                with_reducible rfl
              rotate_left
              · simp only [Act.put, List.setIfInBounds_toArray, List.set_cons_zero, List.set_cons_succ, i64_w, i32_w]
                rfl
              refine pure_ (i := 5) (N := some 49) (v := ?_) (a' := ?_) #[true, true, true, true, true, true, false, false, false, false, false, false, false, false, false, false, false] rfl rfl (any_of HT_.out (by kernel_rfl)) (fun _ _ _ h => h) (Or.inl ⟨by rfl, ?_⟩) ?_ ?_
              rotate_left
              · intro w'
                go_simp
                with_reducible rfl
              rotate_left
              · simp only [Act.put, List.setIfInBounds_toArray, List.set_cons_zero, List.set_cons_succ, i64_w, i32_w]
                rfl
              refine pure_ (i := 6) (N := some 50) (v := ?_) (a' := ?_) #[true, true, true, true, true, true, true, false, false, false, false, false, false, false, false, false, false] rfl rfl (any_of HT_.out (by kernel_rfl)) (fun _ _ _ h => h) (Or.inl ⟨by rfl, ?_⟩) ?_ ?_
              rotate_left
              · intro w'
                go_simp
                with_reducible rfl
              rotate_left
              · simp only [Act.put, List.setIfInBounds_toArray, List.set_cons_zero, List.set_cons_succ, i64_w, i32_w]
                rfl
              refine pure_ (i := 7) (N := some 51) (v := ?_) (a' := ?_) #[true, true, true, true, true, true, true, true, false, false, false, false, false, false, false, false, false] rfl rfl (any_of HT_.out (by kernel_rfl)) (fun _ _ _ h => h) (Or.inl ⟨by rfl, ?_⟩) ?_ ?_
              rotate_left
              · intro w'
                go_simp
                with_reducible rfl
              rotate_left
              · simp only [Act.put, List.setIfInBounds_toArray, List.set_cons_zero, List.set_cons_succ, i64_w, i32_w]
                rfl
              refine pure_ (i := 9) (N := some 53) (v := ?_) (a' := ?_) #[true, true, true, true, true, true, true, true, false, true, false, false, false, false, false, false, false] rfl rfl (any_of HT_.out (by kernel_rfl)) (fun _ _ _ h => h) (Or.inl ⟨by rfl, ?_⟩) ?_ ?_
              rotate_left
              · intro w'
                go_simp
                with_reducible rfl
              rotate_left
              · simp only [Act.put, List.setIfInBounds_toArray, List.set_cons_zero, List.set_cons_succ, i64_w, i32_w]
                rfl
              refine pure_ (i := 10) (N := some 54) (v := ?_) (a' := ?_) #[true, true, true, true, true, true, true, true, false, true, true, false, false, false, false, false, false] rfl rfl (any_of HT_.out (by kernel_rfl)) (fun _ _ _ h => h) (Or.inl ⟨by rfl, ?_⟩) ?_ ?_
              rotate_left
              · intro w'
                go_simp
                with_reducible rfl
              rotate_left
              · simp only [Act.put, List.setIfInBounds_toArray, List.set_cons_zero, List.set_cons_succ, i64_w, i32_w]
                rfl
              refine pure_ (i := 11) (N := some 55) (v := ?_) (a' := ?_) #[true, true, true, true, true, true, true, true, false, true, true, true, false, false, false, false, false] rfl rfl (any_of HT_.out (by kernel_rfl)) (fun _ _ _ h => h) (Or.inl ⟨by rfl, ?_⟩) ?_ ?_
              rotate_left
              · intro w'
                go_simp
                with_reducible rfl
              rotate_left
              · simp only [Act.put, List.setIfInBounds_toArray, List.set_cons_zero, List.set_cons_succ, i64_w, i32_w]
                rfl
              refine pure_ (i := 12) (N := some 56) (v := ?_) (a' := ?_) #[true, true, true, true, true, true, true, true, false, true, true, true, true, false, false, false, false] rfl rfl (any_of HT_.out (by kernel_rfl)) (fun _ _ _ h => h) (Or.inl ⟨by rfl, ?_⟩) ?_ ?_
              rotate_left
              · intro w'
                go_simp
                with_reducible rfl
              rotate_left
              · simp only [Act.put, List.setIfInBounds_toArray, List.set_cons_zero, List.set_cons_succ, i64_w, i32_w]
                rfl
              refine take_ (i := 8) (N := some 52) (v := ?_) (a' := ?_) #[true, true, true, true, true, true, true, true, true, true, true, true, true, false, false, false, false] rfl rfl (take_ofW HT_.out HW_.out (by kernel_rfl)) (fun _ _ _ h => h) (Or.inl ⟨by rfl, ?_⟩) hHeld ?_ ?_
              rotate_left
              · rintro w' ⟨s0, s1, s2, s3⟩
                go_simp
                with_reducible rfl
              rotate_left
              · simp only [Act.put, List.setIfInBounds_toArray, List.set_cons_zero, List.set_cons_succ, i64_w, i32_w]
                rfl
              refine take_ (i := 13) (N := some 57) (v := ?_) (a' := ?_) #[true, true, true, true, true, true, true, true, true, true, true, true, true, true, false, false, false] rfl rfl (take_ofW HT_.out HW_.out (by kernel_rfl)) (fun _ _ _ h => h) (Or.inl ⟨by rfl, ?_⟩) hHeld ?_ ?_
              rotate_left
              · rintro w' ⟨s0, s1, s2, s3⟩
                go_simp
                with_reducible rfl
              rotate_left
              · simp only [Act.put, List.setIfInBounds_toArray, List.set_cons_zero, List.set_cons_succ, i64_w, i32_w]
                rfl
              refine last_ (i := 14) (N := some 58) #[true, true, true, true, true, true, true, true, true, true, true, true, true, true, true, false, false] rfl rfl (one_of HT_.out (by kernel_rfl)) (by decide) (fun K hK => ?_)
              refine goes_ Tryd.func18 (by kernel_rfl) rfl #[.agg #[.int .i64 (rd_T36 ln y).f0.f0, .int .i64 (rd_T36 ln y).f0.f1], .agg #[.int .i64 (rd_T36 ln x).f0.f0, .int .i64 (rd_T36 ln x).f0.f1]] (by rfl) rfl rfl (by simp only [List.map_toArray, List.map_cons, List.map_nil]; rfl) ?_
              with_reducible refine (samphireref10_Less.calls _ _ _ _ true _ HLS.out).mono ?_
              rintro e w5 ⟨rfl, hb⟩
              refine ⟨_, rfl, ?_⟩
              replace HA := Aside0.mk (HA.out.under hb)
              replace HC1 := Aside0.mk (HC1.out.below hb)
              clear hb
              refine hK.out _ _ ?_
              clear hK K
              refine norm_ (a' := ?_) ?_ ?_
              rotate_left
              · show Act.put _ (some 58) _ = _
                simp only [Act.put, List.setIfInBounds_toArray, List.set_cons_zero, List.set_cons_succ, i64_w, i32_w]
                rfl
              refine pure_ (i := 15) (N := some 59) (v := ?_) (a' := ?_) #[true, true, true, true, true, true, true, true, true, true, true, true, true, true, true, true, false] rfl rfl (any_of HT_.out (by kernel_rfl)) (fun _ _ _ h => h) (Or.inl ⟨by rfl, ?_⟩) ?_ ?_
              rotate_left
              · intro w'
                go_simp
                with_reducible rfl
              rotate_left
              · simp only [Act.put, List.setIfInBounds_toArray, List.set_cons_zero, List.set_cons_succ, i64_w, i32_w]
                rfl
              refine pure_ (i := 16) (N := some 60) (v := ?_) (a' := ?_) #[true, true, true, true, true, true, true, true, true, true, true, true, true, true, true, true, true] rfl rfl (any_of HT_.out (by kernel_rfl)) (fun _ _ _ h => h) (Or.inl ⟨by rfl, ?_⟩) ?_ ?_
              rotate_left
              · intro w'
                go_simp
                with_reducible rfl
              rotate_left
              · simp only [Act.put, List.setIfInBounds_toArray, List.set_cons_zero, List.set_cons_succ, i64_w, i32_w]
                rfl
              refine done_ (done_of HT_.out (by kernel_rfl)) ?_

              clear p0 p1 p2 p3 p4 p5 q0 q1 q2 q3 q4 q5
              simp only [hyw]
              clear hyw b2 b3
              generalize w5 = w3 at HA HC1 ⊢
              obtain ⟨ad1, e, y0, y1, y2, y3, y4, y5⟩ := at_T36 HC1.out.readsA.2 x H0.out H1.out
              cases e
              go_upto_region 15 with fail
              have HX := Aside0.mk (heap_alloc_new w3 (.cells #[.int .i64 (rd_T36 ln x).f1.f0, .int .i64 (rd_T36 ln x).f1.f1] 25))
              have HNF := Aside0.mk HA.out.tree.not_foot
              have hxx : w.heap.size ≤ w3.heap.size := HA.out.below.size
              have HNR := Aside0.mk HC1.out.own_ne
              replace HC1 := Aside0.mk (HC1.out.below (below_alloc (Below.refl w3.heap.size w3) (.cells #[.int .i64 (rd_T36 ln x).f1.f0, .int .i64 (rd_T36 ln x).f1.f1] 25)))
              replace HA := Aside0.mk (HA.out.under (below_alloc (Below.refl w3.heap.size w3) (.cells #[.int .i64 (rd_T36 ln x).f1.f0, .int .i64 (rd_T36 ln x).f1.f1] 25)))
              generalize w3.heap.size = b at HX HNF hxx HNR ⊢
              generalize w3.alloc (.cells #[.int .i64 (rd_T36 ln x).f1.f0, .int .i64 (rd_T36 ln x).f1.f1] 25) = w4 at HX HA HC1 ⊢
              clear y0 y1 y2 y3 y4 y5
              go_wp2_with fail
              try go_frame
              go_loopg [8] (ln.length + 2) (fun kq p wr => ∃ (s : Nat) (q : Stp), Aside0 (kq + s = ln.length + 2) ∧ p = .int .i64 (s : Int) ∧ Aside0 (wr.heap[b]? = some (.cells #[.int .i64 q.f0, .int .i64 q.f1] 25 (0, 0))) ∧ Aside0 (RtPath T.now ln.length s q) ∧ Aside0 (FrAt w wr g f n v T) ∧ Aside0 (NodesAt wr B1 (.slice (some ad) ln.length c1) ln))
              case atStart => exact ⟨0, _, ⟨by omega⟩, rfl, HX, ⟨rt_start HA.out.fresh HP.out H0.out H1.out⟩, HA, HC1⟩
              case round =>
                clear HX HA HC1
                obtain ⟨s, q, HS, rfl, HX, HPA, HA, HC1⟩ := hrel
                obtain ⟨z0, z1, z2, z3⟩ := Z2 HX.out
                rcases HPA.out.cases with ⟨hs1, hs2, hq1, hq2⟩ | ⟨hs1, hq1, hq2⟩
                · have HM := Aside0.mk (show s < ln.length ∧ has T.now q = true ∧ 1 ≤ q.f0 ∧ RtPath T.now ln.length (s + 1) (look T.now q).f1 from ⟨hs1, hs2, hq1, hq2⟩)
                  obtain ⟨k2, rfl⟩ : ∃ k2, gk = k2 + 1 := ⟨ln.length + 1 - s, by have := HS.out; omega⟩
                  have d3 : decide ((s : Int) ≤ (ln.length : Int)) = true := decide_eq_true (by omega)
                  have d4 : (s ≤ ln.length) = True := eq_true (by omega)
                  have d5 : decide ((0 : Int) < q.f0) = true := decide_eq_true (by omega)
                  have d6 : decide ((s : Int) = (ln.length : Int)) = false := decide_eq_false (by omega)
                  have d7 : (s = ln.length) = False := eq_false (by omega)
                  have d8 : ((s : Int) = (ln.length : Int)) = False := eq_false (by omega)
                  have d9 : (s == ln.length) = false := beq_eq_false_iff_ne.2 (by omega)
                  have d10 : ((s : Int) == (ln.length : Int)) = false := beq_eq_false_iff_ne.2 (by omega)
                  have d11 : decide (s = ln.length) = false := decide_eq_false (by omega)
                  have hws : wrap64 ((s : Int) + 1) = (s : Int) + 1 := rt_w hs1 HLN.out
                  clear hs1 hq1 hq2
                  go_upto_region 19 with (go_at_call 19; refine (Get_calls _ _ g f n v T ⟨_, _⟩ HA.out.tree).mono ?_; rintro e w1 ⟨rfl, hb⟩; replace HA := Aside0.mk (HA.out.under hb); replace HX := Aside0.mk (blk_below HX.out hb); replace HC1 := Aside0.mk (HC1.out.below hb); clear hb)
                  generalize hz : look T.now ⟨q.f0, q.f1⟩ = z
                  have HZ := Aside0.mk (show look T.now q = z from hz)
                  clear hz
                  have HY := Aside0.mk (heap_alloc_new w1 (.cells #[.int .i64 z.f0.f0, .int .i64 z.f0.f1, .int .i64 z.f1.f0, .int .i64 z.f1.f1, .string z.f2, .string z.f3] 36))
                  replace HX := Aside0.mk (blk_below HX.out (below_alloc (Below.refl w1.heap.size w1) (.cells #[.int .i64 z.f0.f0, .int .i64 z.f0.f1, .int .i64 z.f1.f0, .int .i64 z.f1.f1, .string z.f2, .string z.f3] 36)))
                  replace HC1 := Aside0.mk (HC1.out.below (below_alloc (Below.refl w1.heap.size w1) (.cells #[.int .i64 z.f0.f0, .int .i64 z.f0.f1, .int .i64 z.f1.f0, .int .i64 z.f1.f1, .string z.f2, .string z.f3] 36)))
                  replace HA := Aside0.mk (HA.out.under (below_alloc (Below.refl w1.heap.size w1) (.cells #[.int .i64 z.f0.f0, .int .i64 z.f0.f1, .int .i64 z.f1.f0, .int .i64 z.f1.f1, .string z.f2, .string z.f3] 36)))
                  generalize w1.heap.size = xy at HY ⊢
                  generalize w1.alloc (.cells #[.int .i64 z.f0.f0, .int .i64 z.f0.f1, .int .i64 z.f1.f0, .int .i64 z.f1.f1, .string z.f2, .string z.f3] 36) = w5 at HX HA HC1 HY ⊢
                  have hh : has T.now ⟨q.f0, q.f1⟩ = true := hs2
                  obtain ⟨y0, y1, y2, y3, y4, y5⟩ := Y6 HY.out
                  obtain ⟨x0, x1, x2, x3⟩ := Z2 HX.out
                  clear z0 z1 z2 z3 hs2
                  go_wp2
                  have HX5 := Aside0.mk (blk_put (blk_put HX.out 0 (.int .i64 z.f1.f0) (show (#[.int .i64 q.f0, .int .i64 q.f1] : Array Value).setIfInBounds 0 (.int .i64 z.f1.f0) = #[.int .i64 z.f1.f0, .int .i64 q.f1] from rfl)) 1 (.int .i64 z.f1.f1) (show (#[.int .i64 z.f1.f0, .int .i64 q.f1] : Array Value).setIfInBounds 1 (.int .i64 z.f1.f1) = #[.int .i64 z.f1.f0, .int .i64 z.f1.f1] from rfl))
                  have HA5 := Aside0.mk (HA.out.set2 hxx HNF.out z.f1.f0 z.f1.f1)
                  go_roundg k2
                  case measure => exact Nat.lt_succ_self _
                  case rel => exact ⟨s + 1, z.f1, ⟨by have := HS.out; omega⟩, (by first | rfl | (rw [hws]; rfl)), HX5, ⟨by rw [← HZ.out]; exact HM.out.2.2.2⟩, HA5, ⟨HC1.out.set2 HNR.out z.f1.f0 z.f1.f1⟩⟩
                · have d3 : decide ((s : Int) ≤ (ln.length : Int)) = true := decide_eq_true (by omega)
                  have d4 : (s ≤ ln.length) = True := eq_true (by omega)
                  clear hs1
                  obtain ⟨qa, qb⟩ := q
                  obtain rfl : qa = 0 := hq1
                  rcases hq2 with hq2 | hq2
                  · obtain rfl : qb = 0 := hq2
                    dsimp only at z0 z1 z2 z3
                    go_wp2
                    go_roundg k3
                    case measure => exact Nat.lt_succ_self _
                    case rel => exact ⟨x + 1, ⟨rt_k HK2.out H1.out⟩, (by first | rfl | rw [hw1]), HA, HC1⟩
                  · obtain rfl : qb = 1 := hq2
                    dsimp only at z0 z1 z2 z3
                    go_wp2
                    go_roundg k3
                    case measure => exact Nat.lt_succ_self _
                    case rel => exact ⟨x + 1, ⟨rt_k HK2.out H1.out⟩, (by first | rfl | rw [hw1]), HA, HC1⟩
            · have b2 : decide (0 < x) = false := decide_eq_false hx0
              have b3 : (0 < x) = False := eq_false hx0
              clear hx0
              go_upto_region 12 with fail
              replace HA := Aside0.mk (HA.out.under (Below.refl _ _).drew)
              replace HC1 := Aside0.mk (HC1.out.below (Below.refl _ _).drew)
              refine start_ (n := 17) (S := fun w' => True) (ds := []) #[false, false, false, false, false, false, false, false, false, false, false, false, false, false, false, false, false] (by kernel_rfl) rfl rfl trivial (fun hHeld => ?_)
              refine with_tabW rooted_.tab12 rooted_.bits12 (fun HT_ HW_ => ?_)
              refine pure_ (i := 0) (N := some 44) (v := ?_) (a' := ?_) #[true, false, false, false, false, false, false, false, false, false, false, false, false, false, false, false, false] rfl rfl (any_of HT_.out (by kernel_rfl)) (fun _ _ _ h => h) (Or.inl ⟨by rfl, ?_⟩) ?_ ?_
              rotate_left
              · intro w'
                go_simp
                with_reducible rfl
              rotate_left
              · simp only [Act.put, List.setIfInBounds_toArray, List.set_cons_zero, List.set_cons_succ, i64_w, i32_w]
                rfl
              refine pure_ (i := 1) (N := some 45) (v := ?_) (a' := ?_) #[true, true, false, false, false, false, false, false, false, false, false, false, false, false, false, false, false] rfl rfl (any_of HT_.out (by kernel_rfl)) (fun _ _ _ h => h) (Or.inl ⟨by rfl, ?_⟩) ?_ ?_
              rotate_left
              · intro w'
                go_simp
                with_reducible rfl
              rotate_left
              · simp only [Act.put, List.setIfInBounds_toArray, List.set_cons_zero, List.set_cons_succ, i64_w, i32_w]
                rfl
              refine pure_ (i := 2) (N := some 46) (v := ?_) (a' := ?_) #[true, true, true, false, false, false, false, false, false, false, false, false, false, false, false, false, false] rfl rfl (any_of HT_.out (by kernel_rfl)) (fun _ _ _ h => h) (Or.inl ⟨by rfl, ?_⟩) ?_ ?_
              rotate_left
              · intro w'
                go_simp
                with_reducible rfl
              rotate_left
              · simp only [Act.put, List.setIfInBounds_toArray, List.set_cons_zero, List.set_cons_succ, i64_w, i32_w]
                rfl
              refine pure_ (i := 3) (N := some 47) (v := undef) (a' := ?_) #[true, true, true, true, false, false, false, false, false, false, false, false, false, false, false, false, false] rfl rfl (any_of HT_.out (by kernel_rfl)) (fun _ _ _ h => h) (Or.inr ⟨by rfl, rfl⟩) ?_ ?_
              rotate_left
              · simp only [Act.put, List.setIfInBounds_toArray, List.set_cons_zero, List.set_cons_succ, i64_w, i32_w]
                rfl
              refine pure_ (i := 4) (N := some 48) (v := undef) (a' := ?_) #[true, true, true, true, true, false, false, false, false, false, false, false, false, false, false, false, false] rfl rfl (any_of HT_.out (by kernel_rfl)) (fun _ _ _ h => h) (Or.inr ⟨by rfl, rfl⟩) ?_ ?_
              rotate_left
              · simp only [Act.put, List.setIfInBounds_toArray, List.set_cons_zero, List.set_cons_succ, i64_w, i32_w]
                rfl
              refine pure_ (i := 5) (N := some 49) (v := undef) (a' := ?_) #[true, true, true, true, true, true, false, false, false, false, false, false, false, false, false, false, false] rfl rfl (any_of HT_.out (by kernel_rfl)) (fun _ _ _ h => h) (Or.inr ⟨by rfl, rfl⟩) ?_ ?_
              rotate_left
              · simp only [Act.put, List.setIfInBounds_toArray, List.set_cons_zero, List.set_cons_succ, i64_w, i32_w]
                rfl
              refine pure_ (i := 6) (N := some 50) (v := undef) (a' := ?_) #[true, true, true, true, true, true, true, false, false, false, false, false, false, false, false, false, false] rfl rfl (any_of HT_.out (by kernel_rfl)) (fun _ _ _ h => h) (Or.inr ⟨by rfl, rfl⟩) ?_ ?_
              rotate_left
              · simp only [Act.put, List.setIfInBounds_toArray, List.set_cons_zero, List.set_cons_succ, i64_w, i32_w]
                rfl
              refine pure_ (i := 7) (N := some 51) (v := undef) (a' := ?_) #[true, true, true, true, true, true, true, true, false, false, false, false, false, false, false, false, false] rfl rfl (any_of HT_.out (by kernel_rfl)) (fun _ _ _ h => h) (Or.inr ⟨by rfl, rfl⟩) ?_ ?_
              rotate_left
              · simp only [Act.put, List.setIfInBounds_toArray, List.set_cons_zero, List.set_cons_succ, i64_w, i32_w]
                rfl
              refine pure_ (i := 8) (N := some 52) (v := undef) (a' := ?_) #[true, true, true, true, true, true, true, true, true, false, false, false, false, false, false, false, false] rfl rfl (any_of HT_.out (by kernel_rfl)) (fun _ _ _ h => h) (Or.inr ⟨by rfl, rfl⟩) ?_ ?_
              rotate_left
              · simp only [Act.put, List.setIfInBounds_toArray, List.set_cons_zero, List.set_cons_succ, i64_w, i32_w]
                rfl
              refine pure_ (i := 9) (N := some 53) (v := undef) (a' := ?_) #[true, true, true, true, true, true, true, true, true, true, false, false, false, false, false, false, false] rfl rfl (any_of HT_.out (by kernel_rfl)) (fun _ _ _ h => h) (Or.inr ⟨by rfl, rfl⟩) ?_ ?_
              rotate_left
              · simp only [Act.put, List.setIfInBounds_toArray, List.set_cons_zero, List.set_cons_succ, i64_w, i32_w]
                rfl
              refine pure_ (i := 10) (N := some 54) (v := undef) (a' := ?_) #[true, true, true, true, true, true, true, true, true, true, true, false, false, false, false, false, false] rfl rfl (any_of HT_.out (by kernel_rfl)) (fun _ _ _ h => h) (Or.inr ⟨by rfl, rfl⟩) ?_ ?_
              rotate_left
              · simp only [Act.put, List.setIfInBounds_toArray, List.set_cons_zero, List.set_cons_succ, i64_w, i32_w]
                rfl
              refine pure_ (i := 11) (N := some 55) (v := undef) (a' := ?_) #[true, true, true, true, true, true, true, true, true, true, true, true, false, false, false, false, false] rfl rfl (any_of HT_.out (by kernel_rfl)) (fun _ _ _ h => h) (Or.inr ⟨by rfl, rfl⟩) ?_ ?_
              rotate_left
              · simp only [Act.put, List.setIfInBounds_toArray, List.set_cons_zero, List.set_cons_succ, i64_w, i32_w]
                rfl
              refine pure_ (i := 12) (N := some 56) (v := undef) (a' := ?_) #[true, true, true, true, true, true, true, true, true, true, true, true, true, false, false, false, false] rfl rfl (any_of HT_.out (by kernel_rfl)) (fun _ _ _ h => h) (Or.inr ⟨by rfl, rfl⟩) ?_ ?_
              rotate_left
              · simp only [Act.put, List.setIfInBounds_toArray, List.set_cons_zero, List.set_cons_succ, i64_w, i32_w]
                rfl
              refine pure_ (i := 13) (N := some 57) (v := undef) (a' := ?_) #[true, true, true, true, true, true, true, true, true, true, true, true, true, true, false, false, false] rfl rfl (any_of HT_.out (by kernel_rfl)) (fun _ _ _ h => h) (Or.inr ⟨by rfl, rfl⟩) ?_ ?_
              rotate_left
              · simp only [Act.put, List.setIfInBounds_toArray, List.set_cons_zero, List.set_cons_succ, i64_w, i32_w]
                rfl
              refine pure_ (i := 14) (N := some 58) (v := undef) (a' := ?_) #[true, true, true, true, true, true, true, true, true, true, true, true, true, true, true, false, false] rfl rfl (any_of HT_.out (by kernel_rfl)) (fun _ _ _ h => h) (Or.inr ⟨by rfl, rfl⟩) ?_ ?_
              rotate_left
              · simp only [Act.put, List.setIfInBounds_toArray, List.set_cons_zero, List.set_cons_succ, i64_w, i32_w]
                rfl
              refine pure_ (i := 15) (N := some 59) (v := undef) (a' := ?_) #[true, true, true, true, true, true, true, true, true, true, true, true, true, true, true, true, false] rfl rfl (any_of HT_.out (by kernel_rfl)) (fun _ _ _ h => h) (Or.inr ⟨by rfl, rfl⟩) ?_ ?_
              rotate_left
              · simp only [Act.put, List.setIfInBounds_toArray, List.set_cons_zero, List.set_cons_succ, i64_w, i32_w]
                rfl
              refine pure_ (i := 16) (N := some 60) (v := ?_) (a' := ?_) #[true, true, true, true, true, true, true, true, true, true, true, true, true, true, true, true, true] rfl rfl (any_of HT_.out (by kernel_rfl)) (fun _ _ _ h => h) (Or.inl ⟨by rfl, ?_⟩) ?_ ?_
              rotate_left
              · intro w'
                go_simp
                with_reducible rfl
              rotate_left
              · simp only [Act.put, List.setIfInBounds_toArray, List.set_cons_zero, List.set_cons_succ, i64_w, i32_w]
                rfl
              refine done_ (done_of HT_.out (by kernel_rfl)) ?_

              generalize wr.drew = w3 at HA HC1 ⊢
              obtain ⟨ad1, e, y0, y1, y2, y3, y4, y5⟩ := at_T36 HC1.out.readsA.2 x H0.out H1.out
              cases e
              go_upto_region 15 with fail
              have HX := Aside0.mk (heap_alloc_new w3 (.cells #[.int .i64 (rd_T36 ln x).f1.f0, .int .i64 (rd_T36 ln x).f1.f1] 25))
              have HNF := Aside0.mk HA.out.tree.not_foot
              have hxx : w.heap.size ≤ w3.heap.size := HA.out.below.size
              have HNR := Aside0.mk HC1.out.own_ne
              replace HC1 := Aside0.mk (HC1.out.below (below_alloc (Below.refl w3.heap.size w3) (.cells #[.int .i64 (rd_T36 ln x).f1.f0, .int .i64 (rd_T36 ln x).f1.f1] 25)))
              replace HA := Aside0.mk (HA.out.under (below_alloc (Below.refl w3.heap.size w3) (.cells #[.int .i64 (rd_T36 ln x).f1.f0, .int .i64 (rd_T36 ln x).f1.f1] 25)))
              generalize w3.heap.size = b at HX HNF hxx HNR ⊢
              generalize w3.alloc (.cells #[.int .i64 (rd_T36 ln x).f1.f0, .int .i64 (rd_T36 ln x).f1.f1] 25) = w4 at HX HA HC1 ⊢
              clear y0 y1 y2 y3 y4 y5
              go_wp2_with fail
              try go_frame
              go_loopg [8] (ln.length + 2) (fun kq p wr => ∃ (s : Nat) (q : Stp), Aside0 (kq + s = ln.length + 2) ∧ p = .int .i64 (s : Int) ∧ Aside0 (wr.heap[b]? = some (.cells #[.int .i64 q.f0, .int .i64 q.f1] 25 (0, 0))) ∧ Aside0 (RtPath T.now ln.length s q) ∧ Aside0 (FrAt w wr g f n v T) ∧ Aside0 (NodesAt wr B1 (.slice (some ad) ln.length c1) ln))
              case atStart => exact ⟨0, _, ⟨by omega⟩, rfl, HX, ⟨rt_start HA.out.fresh HP.out H0.out H1.out⟩, HA, HC1⟩
              case round =>
                clear HX HA HC1
                obtain ⟨s, q, HS, rfl, HX, HPA, HA, HC1⟩ := hrel
                obtain ⟨z0, z1, z2, z3⟩ := Z2 HX.out
                rcases HPA.out.cases with ⟨hs1, hs2, hq1, hq2⟩ | ⟨hs1, hq1, hq2⟩
                · have HM := Aside0.mk (show s < ln.length ∧ has T.now q = true ∧ 1 ≤ q.f0 ∧ RtPath T.now ln.length (s + 1) (look T.now q).f1 from ⟨hs1, hs2, hq1, hq2⟩)
                  obtain ⟨k2, rfl⟩ : ∃ k2, gk = k2 + 1 := ⟨ln.length + 1 - s, by have := HS.out; omega⟩
                  have d3 : decide ((s : Int) ≤ (ln.length : Int)) = true := decide_eq_true (by omega)
                  have d4 : (s ≤ ln.length) = True := eq_true (by omega)
                  have d5 : decide ((0 : Int) < q.f0) = true := decide_eq_true (by omega)
                  have d6 : decide ((s : Int) = (ln.length : Int)) = false := decide_eq_false (by omega)
                  have d7 : (s = ln.length) = False := eq_false (by omega)
                  have d8 : ((s : Int) = (ln.length : Int)) = False := eq_false (by omega)
                  have d9 : (s == ln.length) = false := beq_eq_false_iff_ne.2 (by omega)
                  have d10 : ((s : Int) == (ln.length : Int)) = false := beq_eq_false_iff_ne.2 (by omega)
                  have d11 : decide (s = ln.length) = false := decide_eq_false (by omega)
                  have hws : wrap64 ((s : Int) + 1) = (s : Int) + 1 := rt_w hs1 HLN.out
                  clear hs1 hq1 hq2
                  go_upto_region 19 with (go_at_call 19; refine (Get_calls _ _ g f n v T ⟨_, _⟩ HA.out.tree).mono ?_; rintro e w1 ⟨rfl, hb⟩; replace HA := Aside0.mk (HA.out.under hb); replace HX := Aside0.mk (blk_below HX.out hb); replace HC1 := Aside0.mk (HC1.out.below hb); clear hb)
                  generalize hz : look T.now ⟨q.f0, q.f1⟩ = z
                  have HZ := Aside0.mk (show look T.now q = z from hz)
                  clear hz
                  have HY := Aside0.mk (heap_alloc_new w1 (.cells #[.int .i64 z.f0.f0, .int .i64 z.f0.f1, .int .i64 z.f1.f0, .int .i64 z.f1.f1, .string z.f2, .string z.f3] 36))
                  replace HX := Aside0.mk (blk_below HX.out (below_alloc (Below.refl w1.heap.size w1) (.cells #[.int .i64 z.f0.f0, .int .i64 z.f0.f1, .int .i64 z.f1.f0, .int .i64 z.f1.f1, .string z.f2, .string z.f3] 36)))
                  replace HC1 := Aside0.mk (HC1.out.below (below_alloc (Below.refl w1.heap.size w1) (.cells #[.int .i64 z.f0.f0, .int .i64 z.f0.f1, .int .i64 z.f1.f0, .int .i64 z.f1.f1, .string z.f2, .string z.f3] 36)))
                  replace HA := Aside0.mk (HA.out.under (below_alloc (Below.refl w1.heap.size w1) (.cells #[.int .i64 z.f0.f0, .int .i64 z.f0.f1, .int .i64 z.f1.f0, .int .i64 z.f1.f1, .string z.f2, .string z.f3] 36)))
                  generalize w1.heap.size = xy at HY ⊢
                  generalize w1.alloc (.cells #[.int .i64 z.f0.f0, .int .i64 z.f0.f1, .int .i64 z.f1.f0, .int .i64 z.f1.f1, .string z.f2, .string z.f3] 36) = w5 at HX HA HC1 HY ⊢
                  have hh : has T.now ⟨q.f0, q.f1⟩ = true := hs2
                  obtain ⟨y0, y1, y2, y3, y4, y5⟩ := Y6 HY.out
                  obtain ⟨x0, x1, x2, x3⟩ := Z2 HX.out
                  clear z0 z1 z2 z3 hs2
                  go_wp2
                  have HX5 := Aside0.mk (blk_put (blk_put HX.out 0 (.int .i64 z.f1.f0) (show (#[.int .i64 q.f0, .int .i64 q.f1] : Array Value).setIfInBounds 0 (.int .i64 z.f1.f0) = #[.int .i64 z.f1.f0, .int .i64 q.f1] from rfl)) 1 (.int .i64 z.f1.f1) (show (#[.int .i64 z.f1.f0, .int .i64 q.f1] : Array Value).setIfInBounds 1 (.int .i64 z.f1.f1) = #[.int .i64 z.f1.f0, .int .i64 z.f1.f1] from rfl))
                  have HA5 := Aside0.mk (HA.out.set2 hxx HNF.out z.f1.f0 z.f1.f1)
                  go_roundg k2
                  case measure => exact Nat.lt_succ_self _
                  case rel => exact ⟨s + 1, z.f1, ⟨by have := HS.out; omega⟩, (by first | rfl | (rw [hws]; rfl)), HX5, ⟨by rw [← HZ.out]; exact HM.out.2.2.2⟩, HA5, ⟨HC1.out.set2 HNR.out z.f1.f0 z.f1.f1⟩⟩
                · have d3 : decide ((s : Int) ≤ (ln.length : Int)) = true := decide_eq_true (by omega)
                  have d4 : (s ≤ ln.length) = True := eq_true (by omega)
                  clear hs1
                  obtain ⟨qa, qb⟩ := q
                  obtain rfl : qa = 0 := hq1
                  rcases hq2 with hq2 | hq2
                  · obtain rfl : qb = 0 := hq2
                    dsimp only at z0 z1 z2 z3
                    go_wp2
                    go_roundg k3
                    case measure => exact Nat.lt_succ_self _
                    case rel => exact ⟨x + 1, ⟨rt_k HK2.out H1.out⟩, (by first | rfl | rw [hw1]), HA, HC1⟩
                  · obtain rfl : qb = 1 := hq2
                    dsimp only at z0 z1 z2 z3
                    go_wp2
                    go_roundg k3
                    case measure => exact Nat.lt_succ_self _
                    case rel => exact ⟨x + 1, ⟨rt_k HK2.out H1.out⟩, (by first | rfl | rw [hw1]), HA, HC1⟩
          · have b1 : decide (x < (ln.length : Int)) = false := decide_eq_false hx
            clear hx
            go_wp2_with (go_at_call 16; refine (awake_calls _ (HL.out.below HA.out.below)).mono ?_; rintro e w1 ⟨rfl, hb⟩; replace HA := Aside0.mk (HA.out.under hb); clear hb)
            go_ret
            exact ⟨rfl, HA.out.below⟩
end Go.Proofs.YtiffeljmeahmkaaDoor.S
