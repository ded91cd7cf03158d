/- The law TreeLast. -/
import Derived.Test.YtiffeljmeahmkaaDoorOh
import Derived.Test.YtiffeljmeahmkaaDoorMz
import Derived.Test.YtiffeljmeahmkaaDoorOb
namespace Go.Proofs.YtiffeljmeahmkaaDoor.S
open Go.RowKit Go.Proofs.YtiffeljmeahmkaaDoorW.PrintWords Go.Proofs.YtiffeljmeahmkaaDoorW.PrintLast Go.Proofs.YtiffeljmeahmkaaDoorW.PrintMore
set_option linter.unusedVariables false
set_option linter.unusedSimpArgs false
theorem TreeAt.foot_lt_ {w : World} {B g f n : Nat} {v : Value} {T : Tr} (h : TreeAt w B g f n v T) {k : Nat} (hk : foot g f n v k) : k < w.heap.size := by
  rcases hk with rfl | rfl | rfl | hk
  · exact blk_lt h.blk
  · exact h.fix.lt
  · exact h.now.lt
  · exact h.ops.own_lt _ hk
/-- The law's tree in the world. -/
structure La (w wr : World) (g f n : Nat) (v : Value) (m : Nat) (L : List Opn) (T : Tr) : Prop where
  tree : TreeAt wr w.heap.size g f n v T
  last : LastT m L T
  below : Below w.heap.size w wr
theorem La.under {w wr w' : World} {g f n m : Nat} {v : Value} {L : List Opn} {T : Tr} (h : La w wr g f n v m L T) (hb : Below wr.heap.size wr w') : La w w' g f n v m L T := ⟨h.tree.below hb, h.last, below_then h.below h.below.size hb⟩
theorem La.first {w w1 w' : World} {g f n : Nat} {v' : Value} {T' : Tr} (ht : TreeAt w1 w.heap.size g f n (.slice none 0 0) ⟨[], [], [], St0⟩) (hb : Below w.heap.size w w1) (ht' : TreeAt w' w.heap.size g f n v' T') (hg : Good T') (e1 : T'.fixed = []) (e2 : T'.base = St0) (e3 : T'.ops = (putO ⟨[], [], [], St0⟩ crO 0).1) (h4 : Stay w1 w' (foot g f n (.slice none 0 0))) : La w w' g f n v' 0 [] T' :=
  ⟨ht', ⟨hg, e1, e2, e3, fun o ho => by simp at ho, Nat.le_refl _⟩, ht.back h4 hb⟩
theorem la_index {N i t len : Nat} (hi : i < N) (hN : N ≤ 24 ∧ N ≤ len) (ht : t < 256) : wrap64 ((i : Int) + 1) = (i : Int) + 1 ∧ ∃ y : Int, wrap64 ((i : Int) + t) = (i : Int) + t ∧ ((i : Int) + t).tmod (N : Int) = y ∧ 0 ≤ y ∧ y < (len : Int) ∧ y < 24 ∧ wrap64 (97 + y) = 97 + y ∧ IntKind.u8.wrap (97 + y) = 97 + y := by
  have h1 : 0 ≤ ((i : Int) + t) % (N : Int) := Int.emod_nonneg _ (by omega)
  have h2 : ((i : Int) + t) % (N : Int) < (N : Int) := Int.emod_lt_of_pos _ (by omega)
  refine ⟨by unfold wrap64; omega, ((i : Int) + t) % (N : Int), by unfold wrap64; omega, Int.tmod_eq_emod_of_nonneg (by omega), h1, by omega, by omega, by unfold wrap64; omega, ?_⟩
  rw [IntKind.wrap_u8]
  omega
theorem last_text {y : Int} (h0 : 0 ≤ y) (h : y < 24) : ∀ a : Stp, fineB a.f0 a.f1 = true → tree_Check.f 40 3 a.f0 a.f1 1 1 0 0 (strOfNums [97 + y]) ⟨#[]⟩ = some 0 ∧ tree_Check.f 40 4 a.f0 a.f1 1 1 0 0 ⟨#[]⟩ (strOfNums [97 + y]) = some 0 := by
  have e : strOfNums [97 + y] = ⟨#[UInt8.ofNat (97 + y.toNat)]⟩ := by
    unfold strOfNums
    rw [List.map_cons, List.map_nil, show (97 + y).toNat = 97 + y.toNat by omega]
  intro a ha
  rw [e]
  exact ⟨last_name _ (by omega) a ha, last_val _ (by omega) a ha⟩
theorem last_nv3 (nm : ByteArray) (tt ww : Int) (h : 2 ≤ tt ∧ tt ≤ 17 ∧ 1 ≤ ww ∧ ww ≤ 4) : NV ⟨3, ⟨tt, ww⟩, ⟨1, 1⟩, ⟨0, 0⟩, nm, ⟨#[]⟩⟩ := ⟨rfl, .inl rfl, h.1⟩
theorem last_nv4 (nm : ByteArray) (tt ww : Int) (h : 2 ≤ tt ∧ tt ≤ 17 ∧ 1 ≤ ww ∧ ww ≤ 4) : NV ⟨4, ⟨tt, ww⟩, ⟨1, 1⟩, ⟨0, 0⟩, ⟨#[]⟩, nm⟩ := ⟨rfl, .inr rfl, h.1⟩
theorem last_fine {tt ww : Int} (h : 2 ≤ tt ∧ tt ≤ 17 ∧ 1 ≤ ww ∧ ww ≤ 4) : fineB tt ww = true := decide_eq_true ⟨by omega, by omega, by omega, by omega⟩
theorem last_le {i N len : Nat} (h : i < N) (hN : N ≤ 24 ∧ N ≤ len) : i ≤ 400 ∧ i < 24 := by omega
theorem last_len {m : Nat} {L : List Opn} {T : Tr} (h : LastT m L T) (hm : m ≤ 400 ∧ m < 24) : T.ops.length ≤ 1000 := by
  have := h.len
  rw [h.ops, List.length_cons]
  omega
theorem last_ok3 {nm : ByteArray} {s : Stp} : OpOk ⟨3, s, ⟨1, 1⟩, ⟨0, 0⟩, nm, ⟨#[]⟩⟩ := ⟨.inr (.inr (.inl rfl)), by rfl⟩
theorem last_ok4 {nm : ByteArray} {s : Stp} : OpOk ⟨4, s, ⟨1, 1⟩, ⟨0, 0⟩, ⟨#[]⟩, nm⟩ := ⟨.inr (.inr (.inr (.inl rfl))), by rfl⟩
theorem last_feet {w : World} {g f n xn xv : Nat} {v v' : Value} {o1 o2 : Obj} (h : ¬ foot g f n v xn ∧ ¬ foot g f n v xv) (hn : w.heap[xn]? = some o1) (hv : w.heap[xv]? = some o2) (h5 : ∀ k, v'.ownBlock = some k → v.ownBlock = some k ∨ w.heap.size ≤ k) : ¬ foot g f n v' xn ∧ ¬ foot g f n v' xv := ⟨foot_next h.1 hn h5, foot_next h.2 hv h5⟩
theorem last_k {k1 i N : Nat} (h : k1 + 1 + i = 26 ∧ i ≤ N) (h1 : i < N) : k1 + (i + 1) = 26 ∧ i + 1 ≤ N := by omega
theorem last_eq {a b m1 m0 : Nat} (h : a = b) (h1 : a = m1) (h0 : b = m0) : ((m1 : Int) == (m0 : Int)) = true ∧ decide ((m1 : Int) = (m0 : Int)) = true ∧ (m1 = m0) = True := by
  obtain rfl : m1 = m0 := by omega
  simp
theorem last_ne {a b m1 m0 : Nat} (h : a = b + 1) (h1 : a = m1) (h0 : b = m0) : ((m1 : Int) == (m0 : Int)) = false ∧ decide ((m1 : Int) = (m0 : Int)) = false ∧ (m1 = m0) = False := by
  have : m1 ≠ m0 := by omega
  have h2 : (m1 : Int) ≠ (m0 : Int) := by omega
  exact ⟨beq_eq_false_iff_ne.2 h2, decide_eq_false h2, eq_false this⟩
theorem last_look {m : Nat} {L : List Opn} {T : Tr} (h : LastT m L T) : look T.now ⟨1, 1⟩ = ⟨⟨1, 1⟩, ⟨0, 0⟩, (nameL L).2, (valL L).2⟩ ∧ has T.now ⟨1, 1⟩ = true := by
  rw [h.now]
  exact ⟨rfl, rfl⟩
theorem bits_and15 (x : Int) : bits .and .i64 x 15 = x % 16 := by
  have h : bits .and .i64 x 15 = IntKind.i64.wrap ((BitVec.ofInt 64 x &&& BitVec.ofInt 64 15).toNat : Int) := rfl
  rw [h, IntKind.wrap_i64]
  have e : (BitVec.ofInt 64 x &&& BitVec.ofInt 64 15).toNat = (x % 16).toNat := by
    rw [BitVec.toNat_and, BitVec.toNat_ofInt, show (BitVec.ofInt 64 15).toNat = 2 ^ 4 - 1 from by decide, Nat.and_two_pow_sub_one_eq_mod]
    omega
  rw [e]
  omega
theorem bits_and3 (x : Int) : bits .and .i64 x 3 = x % 4 := by
  have h : bits .and .i64 x 3 = IntKind.i64.wrap ((BitVec.ofInt 64 x &&& BitVec.ofInt 64 3).toNat : Int) := rfl
  rw [h, IntKind.wrap_i64]
  have e : (BitVec.ofInt 64 x &&& BitVec.ofInt 64 3).toNat = (x % 4).toNat := by
    rw [BitVec.toNat_and, BitVec.toNat_ofInt, show (BitVec.ofInt 64 3).toNat = 2 ^ 2 - 1 from by decide, Nat.and_two_pow_sub_one_eq_mod]
    omega
  rw [e]
  omega
theorem la_stamp (z : Int) : ∃ z1 tt z2 ww : Int, bits .and .i64 z 15 = z1 ∧ wrap64 (2 + z1) = tt ∧ bits .and .i64 (z / 16) 3 = z2 ∧ wrap64 (1 + z2) = ww ∧ 2 ≤ tt ∧ tt ≤ 17 ∧ 1 ≤ ww ∧ ww ≤ 4 := by
  refine ⟨z % 16, 2 + z % 16, (z / 16) % 4, 1 + (z / 16) % 4, bits_and15 z, ?_, bits_and3 _, ?_, by omega, by omega, by omega, by omega⟩
  · unfold wrap64; omega
  · unfold wrap64; omega
theorem row_cell {w : World} {ad : Addr} {k : Nat} {l : List Int} {y z : Int} (h : Kd.C (Kd.int .i64) w (some ad) k l) (h0 : 0 ≤ y) (h1 : y < k) (hz : rd l y = z) : w.cell? (ad.add y.toNat) = some (.int .i64 z) := by
  obtain ⟨ad', e, hc⟩ := Kd.at_int h y h0 h1
  cases e
  rw [hc, hz]
theorem conv_one {w : World} {b : Nat} {c : Int} (h : w.heap[b]? = some (.cells #[.int .u8 c] 5 (0, 0))) : (convert 38 9 (.slice (some ⟨b, 0, none⟩) 1 1)).run Tryd.prog w = .ok (.string (strOfNums [c])) w :=
  own_string (P := Tryd.prog) (base := 0) (e' := 5) (n := 1) (xs := [c]) Tryd.underlying38 Tryd.underlying5 Tryd.underlying9 ⟨rfl, .inr ⟨b, 1, _, rfl, Nat.zero_le _, h, Nat.le_refl _, by unfold maxLen; omega, rfl, rfl⟩⟩
theorem fresh_at {w P : World} {g f n m : Nat} {v : Value} {L : List Opn} {T : Tr} {xn xv b : Nat} {o1 o2 : Obj} (hA : La w P g f n v m L T) (hN : P.heap[xn]? = some o1) (hV : P.heap[xv]? = some o2) (hb : P.heap.size = b) : ¬ foot g f n v b ∧ b ≠ xn ∧ b ≠ xv ∧ w.heap.size ≤ b := by
  subst hb
  have h1 := blk_lt hN
  have h2 := blk_lt hV
  exact ⟨hA.tree.not_foot, by omega, by omega, hA.below.size⟩
theorem La.store {w wr : World} {g f n m b xn xv : Nat} {v : Value} {L : List Opn} {T : Tr} (h : La w wr g f n v m L T) (hf : ¬ foot g f n v b ∧ b ≠ xn ∧ b ≠ xv ∧ w.heap.size ≤ b) (i : Nat) (u : Value) : La w (wr.setCell ⟨b, i, none⟩ u) g f n v m L T :=
  ⟨h.tree.stay (Stay.cell wr ⟨b, i, none⟩ u) (fun k hk e => hf.1 (by rw [← show k = b from e]; exact hk)), h.last, below_set h.below hf.2.2.2⟩
theorem La.cell {w wr : World} {g f n m b : Nat} {v : Value} {L : List Opn} {T : Tr} (h : La w wr g f n v m L T) (hf : ¬ foot g f n v b) (hb : w.heap.size ≤ b) (i : Nat) (u : Value) : La w (wr.setCell ⟨b, i, none⟩ u) g f n v m L T :=
  ⟨h.tree.stay (Stay.cell wr ⟨b, i, none⟩ u) (fun k hk e => hf (by rw [← show k = b from e]; exact hk)), h.last, below_set h.below hb⟩
section
variable {w wr w' : World} {g f n m : Nat} {v v' : Value} {L : List Opn} {T T' : Tr} {o : Opn}
theorem La.same (h : La w wr g f n v m L T) (hm : m ≤ 400) (ho : NV o) (hi : isIn L o.f1 = true) (ht : TreeAt w' w.heap.size g f n v' T') (hg : Good T') (h1 : T'.fixed = T.fixed) (h2 : T'.base = T.base) (h3 : T'.ops = (putO T o 0).1) (h4 : Stay wr w' (foot g f n v)) : La w w' g f n v' (m + 1) L T' ∧ T'.ops.length = T.ops.length := by
  have hs := h.last.step hm ho hg h1 h2 h3
  rw [if_pos hi] at hs
  exact ⟨⟨ht, hs, h.tree.back h4 h.below⟩, by rw [hs.ops, h.last.ops]⟩
theorem La.new (h : La w wr g f n v m L T) (hm : m ≤ 400) (ho : NV o) (hi : isIn L o.f1 = false) (ht : TreeAt w' w.heap.size g f n v' T') (hg : Good T') (h1 : T'.fixed = T.fixed) (h2 : T'.base = T.base) (h3 : T'.ops = (putO T o 0).1) (h4 : Stay wr w' (foot g f n v)) : La w w' g f n v' (m + 1) (insO L o) T' ∧ T'.ops.length = T.ops.length + 1 := by
  have hs := h.last.step hm ho hg h1 h2 h3
  rw [if_neg (by rw [hi]; decide)] at hs
  exact ⟨⟨ht, hs, h.tree.back h4 h.below⟩, by rw [hs.ops, h.last.ops, List.length_cons, List.length_cons, insO_length]⟩
end
theorem far_cell {wr : World} {x b : Nat} {o : Obj} (h : wr.heap[x]? = some o) (hne : x ≠ b) (i : Nat) (u : Value) : (wr.setCell ⟨b, i, none⟩ u).heap[x]? = some o := (Below.heap_setCell wr ⟨b, i, none⟩ u x hne).trans h
-- TABLE BEGIN
def last_.T10 : Bool × List (List Nat × List Nat) := (true, [([], []), ([], []), ([0, 1], [0, 1]), ([2], [2]), ([3], [3]), ([4], [4]), ([], []), ([], []), ([6, 7], [6, 7]), ([8], [8]), ([9], [9]), ([10], [10]), ([11], [11]), ([5, 12], [5, 12]), ([], []), ([], []), ([15], [15]), ([16], [16]), ([17], [17]), ([18], [18]), ([13, 14, 19], [13, 14, 19]), ([], []), ([21, 20, 14, 0, 1, 2, 3, 4, 5, 6, 7, 8, 9, 10, 11, 12, 13, 14, 15, 16, 17, 18, 19, 20, 21], [20, 21])])
def last_.B10 : List Nat := [0, 0, 3, 7, 15, 31, 0, 0, 192, 448, 960, 1984, 4032, 8191, 0, 0, 32768, 98304, 229376, 491520, 1048575, 0, 4194303]
theorem last_.tab10 : rtab .any (opsOf Tryd.f4 10) = last_.T10 := by kernel_rfl
theorem last_.bits10 : waitsOk last_.T10.2 last_.B10 = true := by kernel_rfl
-- TABLE END
set_option maxRecDepth 100000 in
set_option maxHeartbeats 4000000 in
theorem last_calls (w : World) (A0 : Option Addr) (c0 : Nat) (l : List Int) (kinds turn : Int) (hr : Kd.C (Kd.int .i64) w A0 l.length l) (hc0 : l.length ≤ c0) (hL : Laid w) : Calls Tryd.prog 4 #[.slice A0 l.length c0, .int .i64 kinds, .int .i64 turn] w fun e w' => e = .returned (.bool true) ∧ Below w.heap.size w w' := by
  have hu := Tryd.underlying28
  have hu1 := Tryd.underlying25
  have hu2 := Tryd.underlying36
  have HL := Aside0.mk hL
  have HR := Aside0.mk hr
  have HC0 := Aside0.mk hc0
  clear hL hr hc0
  go_enter Tryd.func4, Tryd.ntmps4
  go_upto_region 5 with (first
    | (go_at_call 12; refine (New_calls _).mono ?_; rintro e w1 ⟨g, f, n, rfl, ht, hb⟩; have HT := Aside0.mk ht; have HB := Aside0.mk hb; clear ht hb)
    | (go_at_call 13; refine (samphirelaw11_at.calls _ _ _ _ _ rfl).mono ?_; rintro e w1 ⟨rfl, hb⟩; replace HT := Aside0.mk (HT.out.below hb); replace HB := Aside0.mk (below_then HB.out HB.out.size hb); clear hb)
    | (go_at_call 14; refine (Apply_calls _ _ g f n _ ⟨[], [], [], St0⟩ crO 40 0 HT.out good_new (by kernel_rfl) (fun _ => ⟨by decide, by decide⟩) (HL.out.below HB.out)).mono ?_; rintro e w' ⟨T1, v1, rfl, ht, hg, h1, h2, h3, h4, h5⟩; have HA := Aside0.mk (La.first HT.out HB.out ht hg h1 h2 h3 h4); clear ht hg h1 h2 h3 h4 h5 HT HB))
  go_upto_region 6 with (go_at_call 13; refine (samphirelaw11_at.calls _ _ _ _ _ rfl).mono ?_; rintro e w1 ⟨rfl, hb⟩; replace HA := Aside0.mk (HA.out.under hb); clear hb)
  obtain ⟨hn0, hv0⟩ := two_new w1 (.cells #[.int .i64 1, .int .i64 1, .int .i64 0, .int .i64 0, .string ⟨#[102, 105, 114, 115, 116]⟩, .string ⟨#[]⟩] 36) (.cells #[.int .i64 1, .int .i64 1, .int .i64 0, .int .i64 0, .string ⟨#[]⟩, .string ⟨#[]⟩] 36)
  have hb0 := two_below w1 (.cells #[.int .i64 1, .int .i64 1, .int .i64 0, .int .i64 0, .string ⟨#[102, 105, 114, 115, 116]⟩, .string ⟨#[]⟩] 36) (.cells #[.int .i64 1, .int .i64 1, .int .i64 0, .int .i64 0, .string ⟨#[]⟩, .string ⟨#[]⟩] 36)
  have HN := Aside0.mk hn0
  have HV := Aside0.mk hv0
  have HXN := Aside0.mk (show w.heap.size ≤ w1.heap.size ∧ ¬ foot g f n v1 w1.heap.size ∧ ¬ foot g f n v1 (w1.heap.size + 1) from ⟨HA.out.below.size, HA.out.tree.not_foot, fun h => by have := HA.out.tree.foot_lt_ h; omega⟩)
  replace HA := Aside0.mk (HA.out.under hb0)
  clear hn0 hv0 hb0
  have hne : w1.heap.size ≠ w1.heap.size + 1 := by omega
  have HXV := Aside0.mk (show w.heap.size ≤ w1.heap.size + 1 from Nat.le_succ_of_le HXN.out.1)
  generalize w1.heap.size + 1 = xv at HV HXN HXV hne ⊢
  generalize w1.heap.size = xn at HN HXN hne ⊢
  generalize (w1.alloc (.cells #[.int .i64 1, .int .i64 1, .int .i64 0, .int .i64 0, .string ⟨#[102, 105, 114, 115, 116]⟩, .string ⟨#[]⟩] 36)).alloc (.cells #[.int .i64 1, .int .i64 1, .int .i64 0, .int .i64 0, .string ⟨#[]⟩, .string ⟨#[]⟩] 36) = w2 at HN HV HA ⊢
  obtain ⟨N, hN, hN24, hNl⟩ : ∃ N : Nat, min (l.length : Int) 24 = (N : Int) ∧ N ≤ 24 ∧ N ≤ l.length := ⟨min l.length 24, by omega, by omega, by omega⟩
  simp only [hN]
  have HN24 := Aside0.mk (And.intro hN24 hNl)
  clear hN hN24 hNl
  obtain ⟨t, ht, et⟩ : ∃ t : Nat, t < 256 ∧ bits .and .i64 turn 255 = (t : Int) := ⟨(turn % 256).toNat, by omega, by rw [bits_and255]; omega⟩
  have HT256 := Aside0.mk ht
  clear ht
  go_wp2_with fail
  try go_frame
  have HNE := Aside0.mk hne
  clear hne
  have HBN := Aside0.mk (show w.heap.size ≤ xn ∧ w.heap.size ≤ xv from ⟨HXN.out.1, HXV.out⟩)
  replace HXN := Aside0.mk (And.intro HXN.out.2.1 HXN.out.2.2)
  go_loopg [11] 26 (fun kq p wr => ∃ (i : Nat) (L : List Opn) (v : Value) (T : Tr), Aside0 (kq + i = 26 ∧ i ≤ N) ∧ p = .int .i64 (i : Int) ∧ Aside0 (La w wr g f n v i L T) ∧ Aside0 (wr.heap[xn]? = some (.cells #[.int .i64 (nameL L).1.f0, .int .i64 (nameL L).1.f1, .int .i64 0, .int .i64 0, .string (nameL L).2, .string ⟨#[]⟩] 36 (0, 0))) ∧ Aside0 (wr.heap[xv]? = some (.cells #[.int .i64 (valL L).1.f0, .int .i64 (valL L).1.f1, .int .i64 0, .int .i64 0, .string ⟨#[]⟩, .string (valL L).2] 36 (0, 0))) ∧ Aside0 (¬ foot g f n v xn ∧ ¬ foot g f n v xv))
  case atStart => exact ⟨0, [], _, _, ⟨by omega⟩, rfl, HA, HN, HV, HXN⟩
  case round =>
    clear HA HN HV HXN
    obtain ⟨i, L, v, T, HK, rfl, HA, HN, HV, HXN⟩ := hrel
    obtain ⟨k1, rfl⟩ : ∃ k1, gk = k1 + 1 := ⟨25 - i, by have := HK.out; have := HN24.out; omega⟩
    by_cases hi : i < N
    · have d1 : decide ((i : Int) < (N : Int)) = true := decide_eq_true (by omega)
      have d2 : (i < N) = True := eq_true hi
      have H1 := Aside0.mk hi
      obtain ⟨hwi, y, ey1, ey2, hy0, hy1, hy24, hc1, hc2⟩ := la_index (t := t) hi HN24.out HT256.out
      have p1_ := eq_true hy0
      have q1_ := eq_true hy1
      have HY := Aside0.mk (And.intro hy0 (And.intro hy1 hy24))
      have n1_ : ((N : Int) = 0) = False := eq_false (by omega)
      have n2_ : (N = 0) = False := eq_false (by omega)
      obtain ⟨ad, e, p0⟩ := Kd.at_int (Kd.C_below HR.out HA.out.below) y hy0 hy1
      cases e
      obtain ⟨z, hz⟩ : ∃ z, rd l y = z := ⟨_, rfl⟩
      rw [hz] at p0
      obtain ⟨z1, tt, z2, ww, ez1, ez2, ez3, ez4, htw⟩ := la_stamp z
      have HTW := Aside0.mk htw
      have HROW := Aside0.mk hz
      clear hi hy0 hy1 hy24 htw hz
      go_upto_region 10 with fail
      replace HA := Aside0.mk (HA.out.under (Below.refl _ _).drew)
      replace HN := Aside0.mk (show wr.drew.heap[xn]? = _ from HN.out)
      replace HV := Aside0.mk (show wr.drew.heap[xv]? = _ from HV.out)
      refine start_ (n := 23) (S := fun w' => w'.cell? (ad.add y.toNat) = some (.int .i64 z)) (ds := [22]) #[false, false, false, false, false, false, false, false, false, false, false, false, false, false, false, false, false, false, false, false, false, false, false] (by kernel_rfl) rfl rfl ((row_cell (Kd.C_below HR.out HA.out.below) HY.out.1 HY.out.2.1 HROW.out)) (fun hHeld => ?_)
      refine with_tabW last_.tab10 last_.bits10 (fun HT_ HW_ => ?_)
      refine pure_ (i := 0) (N := some 46) (v := ?_) (a' := ?_) #[true, false, false, false, false, false, false, false, false, false, false, false, false, false, false, false, false, false, false, false, false, false, false] rfl rfl (any_of HT_.out (by kernel_rfl)) (fun _ _ _ h => h) (Or.inl ⟨by rfl, ?_⟩) ?_ ?_
      rotate_left
      · intro w'
        go_simp
        with_reducible rfl
      rotate_left
      · simp only [Act.put, List.setIfInBounds_toArray, List.set_cons_zero, List.set_cons_succ, i64_w, i32_w]
        rfl
      refine pure_ (i := 1) (N := some 47) (v := ?_) (a' := ?_) #[true, true, false, false, false, false, false, false, false, false, false, false, false, false, false, false, false, false, false, false, false, false, false] rfl rfl (any_of HT_.out (by kernel_rfl)) (fun _ _ _ h => h) (Or.inl ⟨by rfl, ?_⟩) ?_ ?_
      rotate_left
      · intro w'
        go_simp
        with_reducible rfl
      rotate_left
      · simp only [Act.put, List.setIfInBounds_toArray, List.set_cons_zero, List.set_cons_succ, i64_w, i32_w]
        rfl
      refine pure_ (i := 2) (N := some 48) (v := ?_) (a' := ?_) #[true, true, true, false, false, false, false, false, false, false, false, false, false, false, false, false, false, false, false, false, false, false, false] rfl rfl (any_of HT_.out (by kernel_rfl)) (fun _ _ _ h => h) (Or.inl ⟨by rfl, ?_⟩) ?_ ?_
      rotate_left
      · intro w'
        go_simp
        with_reducible rfl
      rotate_left
      · simp only [Act.put, List.setIfInBounds_toArray, List.set_cons_zero, List.set_cons_succ, i64_w, i32_w]
        rfl
      refine pure_ (i := 6) (N := some 52) (v := ?_) (a' := ?_) #[true, true, true, false, false, false, true, false, false, false, false, false, false, false, false, false, false, false, false, false, false, false, false] rfl rfl (any_of HT_.out (by kernel_rfl)) (fun _ _ _ h => h) (Or.inl ⟨by rfl, ?_⟩) ?_ ?_
      rotate_left
      · intro w'
        go_simp
        with_reducible rfl
      rotate_left
      · simp only [Act.put, List.setIfInBounds_toArray, List.set_cons_zero, List.set_cons_succ, i64_w, i32_w]
        rfl
      refine pure_ (i := 7) (N := some 53) (v := ?_) (a' := ?_) #[true, true, true, false, false, false, true, true, false, false, false, false, false, false, false, false, false, false, false, false, false, false, false] rfl rfl (any_of HT_.out (by kernel_rfl)) (fun _ _ _ h => h) (Or.inl ⟨by rfl, ?_⟩) ?_ ?_
      rotate_left
      · intro w'
        go_simp
        with_reducible rfl
      rotate_left
      · simp only [Act.put, List.setIfInBounds_toArray, List.set_cons_zero, List.set_cons_succ, i64_w, i32_w]
        rfl
      refine pure_ (i := 8) (N := some 54) (v := ?_) (a' := ?_) #[true, true, true, false, false, false, true, true, true, false, false, false, false, false, false, false, false, false, false, false, false, false, false] rfl rfl (any_of HT_.out (by kernel_rfl)) (fun _ _ _ h => h) (Or.inl ⟨by rfl, ?_⟩) ?_ ?_
      rotate_left
      · intro w'
        go_simp
        with_reducible rfl
      rotate_left
      · simp only [Act.put, List.setIfInBounds_toArray, List.set_cons_zero, List.set_cons_succ, i64_w, i32_w]
        rfl
      refine pure_ (i := 15) (N := some 61) (v := ?_) (a' := ?_) #[true, true, true, false, false, false, true, true, true, false, false, false, false, false, false, true, false, false, false, false, false, false, false] rfl rfl (any_of HT_.out (by kernel_rfl)) (fun _ _ _ h => h) (Or.inl ⟨by rfl, ?_⟩) ?_ ?_
      rotate_left
      · intro w'
        go_simp
        with_reducible rfl
      rotate_left
      · simp only [Act.put, List.setIfInBounds_toArray, List.set_cons_zero, List.set_cons_succ, i64_w, i32_w]
        rfl
      refine pure_ (i := 16) (N := some 62) (v := ?_) (a' := ?_) #[true, true, true, false, false, false, true, true, true, false, false, false, false, false, false, true, true, false, false, false, false, false, false] rfl rfl (any_of HT_.out (by kernel_rfl)) (fun _ _ _ h => h) (Or.inl ⟨by rfl, ?_⟩) ?_ ?_
      rotate_left
      · intro w'
        go_simp
        with_reducible rfl
      rotate_left
      · simp only [Act.put, List.setIfInBounds_toArray, List.set_cons_zero, List.set_cons_succ, i64_w, i32_w]
        rfl
      refine pure_ (i := 17) (N := some 63) (v := ?_) (a' := ?_) #[true, true, true, false, false, false, true, true, true, false, false, false, false, false, false, true, true, true, false, false, false, false, false] rfl rfl (any_of HT_.out (by kernel_rfl)) (fun _ _ _ h => h) (Or.inl ⟨by rfl, ?_⟩) ?_ ?_
      rotate_left
      · intro w'
        go_simp
        with_reducible rfl
      rotate_left
      · simp only [Act.put, List.setIfInBounds_toArray, List.set_cons_zero, List.set_cons_succ, i64_w, i32_w]
        rfl
      refine take_ (i := 3) (N := some 49) (v := ?_) (a' := ?_) #[true, true, true, true, false, false, true, true, true, false, false, false, false, false, false, true, true, true, false, false, false, false, false] rfl rfl (take_ofW HT_.out HW_.out (by kernel_rfl)) (fun _ _ _ h => h) (Or.inl ⟨by rfl, ?_⟩) hHeld ?_ ?_
      rotate_left
      · intro w' s0
        go_simp
        with_reducible rfl
      rotate_left
      · simp only [Act.put, List.setIfInBounds_toArray, List.set_cons_zero, List.set_cons_succ, i64_w, i32_w]
        rfl
      refine pure_ (i := 4) (N := some 50) (v := ?_) (a' := ?_) #[true, true, true, true, true, false, true, true, true, false, false, false, false, false, false, true, true, true, false, false, false, false, false] rfl rfl (any_of HT_.out (by kernel_rfl)) (fun _ _ _ h => h) (Or.inl ⟨by rfl, ?_⟩) ?_ ?_
      rotate_left
      · intro w'
        go_simp
        with_reducible rfl
      rotate_left
      · simp only [Act.put, List.setIfInBounds_toArray, List.set_cons_zero, List.set_cons_succ, i64_w, i32_w]
        rfl
      refine pure_ (i := 5) (N := some 51) (v := ?_) (a' := ?_) #[true, true, true, true, true, true, true, true, true, false, false, false, false, false, false, true, true, true, false, false, false, false, false] rfl rfl (any_of HT_.out (by kernel_rfl)) (fun _ _ _ h => h) (Or.inl ⟨by rfl, ?_⟩) ?_ ?_
      rotate_left
      · intro w'
        go_simp
        with_reducible rfl
      rotate_left
      · simp only [Act.put, List.setIfInBounds_toArray, List.set_cons_zero, List.set_cons_succ, i64_w, i32_w]
        rfl
      refine take_ (i := 9) (N := some 55) (v := ?_) (a' := ?_) #[true, true, true, true, true, true, true, true, true, true, false, false, false, false, false, true, true, true, false, false, false, false, false] rfl rfl (take_ofW HT_.out HW_.out (by kernel_rfl)) (fun _ _ _ h => h) (Or.inl ⟨by rfl, ?_⟩) hHeld ?_ ?_
      rotate_left
      · intro w' s0
        go_simp
        with_reducible rfl
      rotate_left
      · simp only [Act.put, List.setIfInBounds_toArray, List.set_cons_zero, List.set_cons_succ, i64_w, i32_w]
        rfl
      refine pure_ (i := 10) (N := some 56) (v := ?_) (a' := ?_) #[true, true, true, true, true, true, true, true, true, true, true, false, false, false, false, true, true, true, false, false, false, false, false] rfl rfl (any_of HT_.out (by kernel_rfl)) (fun _ _ _ h => h) (Or.inl ⟨by rfl, ?_⟩) ?_ ?_
      rotate_left
      · intro w'
        go_simp
        with_reducible rfl
      rotate_left
      · simp only [Act.put, List.setIfInBounds_toArray, List.set_cons_zero, List.set_cons_succ, i64_w, i32_w]
        rfl
      refine pure_ (i := 11) (N := some 57) (v := ?_) (a' := ?_) #[true, true, true, true, true, true, true, true, true, true, true, true, false, false, false, true, true, true, false, false, false, false, false] rfl rfl (any_of HT_.out (by kernel_rfl)) (fun _ _ _ h => h) (Or.inl ⟨by rfl, ?_⟩) ?_ ?_
      rotate_left
      · intro w'
        go_simp
        with_reducible rfl
      rotate_left
      · simp only [Act.put, List.setIfInBounds_toArray, List.set_cons_zero, List.set_cons_succ, i64_w, i32_w]
        rfl
      refine pure_ (i := 12) (N := some 58) (v := ?_) (a' := ?_) #[true, true, true, true, true, true, true, true, true, true, true, true, true, false, false, true, true, true, false, false, false, false, false] rfl rfl (any_of HT_.out (by kernel_rfl)) (fun _ _ _ h => h) (Or.inl ⟨by rfl, ?_⟩) ?_ ?_
      rotate_left
      · intro w'
        go_simp
        with_reducible rfl
      rotate_left
      · simp only [Act.put, List.setIfInBounds_toArray, List.set_cons_zero, List.set_cons_succ, i64_w, i32_w]
        rfl
      refine pure_ (i := 13) (N := some 59) (v := ?_) (a' := ?_) #[true, true, true, true, true, true, true, true, true, true, true, true, true, true, false, true, true, true, false, false, false, false, false] rfl rfl (any_of HT_.out (by kernel_rfl)) (fun _ _ _ h => h) (Or.inl ⟨by rfl, ?_⟩) ?_ ?_
      rotate_left
      · intro w'
        go_simp
        with_reducible rfl
      rotate_left
      · simp only [Act.put, List.setIfInBounds_toArray, List.set_cons_zero, List.set_cons_succ, i64_w, i32_w]
        rfl
      refine join_ (σ := Nat × Nat) 1 #[true, true, true, true, true, true, true, true, true, true, true, true, true, true, true, true, true, true, true, true, true, true, false] (fun s => [(60, .agg #[.int .i64 1, .int .i64 1]), (64, .slice (some ⟨s.1, 0, none⟩) 1 1), (65, .string (strOfNums [97 + y])), (66, .agg #[.int .i64 3, .int .i64 tt, .int .i64 ww, .int .i64 1, .int .i64 1, .int .i64 0, .int .i64 0, .string (strOfNums [97 + y]), .string ⟨#[]⟩]), (13, .pointer (some ⟨s.2, 0, none⟩))]) (fun s w' => w'.cell? (ad.add y.toNat) = some (.int .i64 z) ∧ La w w' g f n v i L T ∧ w'.heap[xn]? = some (.cells #[.int .i64 (nameL L).1.f0, .int .i64 (nameL L).1.f1, .int .i64 0, .int .i64 0, .string (nameL L).2, .string ⟨#[]⟩] 36 (0, 0)) ∧ w'.heap[xv]? = some (.cells #[.int .i64 (valL L).1.f0, .int .i64 (valL L).1.f1, .int .i64 0, .int .i64 0, .string ⟨#[]⟩, .string (valL L).2] 36 (0, 0)) ∧ w'.heap[s.2]? = some (.cells #[.int .i64 0, .int .i64 0, .int .i64 0, .int .i64 0, .int .i64 0, .int .i64 0, .int .i64 0, .string ⟨#[]⟩, .string ⟨#[]⟩] 28) ∧ (¬ foot g f n v s.2 ∧ s.2 ≠ xn ∧ s.2 ≠ xv ∧ w.heap.size ≤ s.2)) ?_ ?_
      rotate_left
      · intro hCont
        refine three_ (i := 14) (j := 18) (k := 21) (Ni := some 60) (Nj := some 64) (Nk := some 13) #[true, true, true, true, true, true, true, true, true, true, true, true, true, true, true, true, true, true, false, false, false, false, false] #[true, true, true, true, true, true, true, true, true, true, true, true, true, true, false, true, true, true, true, false, false, false, false] #[true, true, true, true, true, true, true, true, true, true, true, true, true, true, false, true, true, true, false, false, false, true, false] rfl rfl rfl rfl rfl rfl (three_of HT_.out (by kernel_rfl)) (by decide) (by decide) (by decide) (fun K hK => ?_) (fun K hK => ?_) (fun K hK => ?_)
        · skip
          refine goes_ Tryd.func13 (by kernel_rfl) rfl #[.int .i64 1, .int .i64 1] (by rfl) rfl rfl (by simp only [List.map_toArray, List.map_cons, List.map_nil]; rfl) ?_
          with_reducible refine (samphirelaw11_at.calls _ _ _ _ _ rfl).mono ?_
          rintro e w5 ⟨rfl, hb⟩
          refine ⟨_, rfl, ?_⟩
          replace HA := Aside0.mk (HA.out.under hb)
          replace HN := Aside0.mk (blk_below HN.out hb)
          replace HV := Aside0.mk (blk_below HV.out hb)
          clear hb
          refine hK.out _ _ ((row_cell (Kd.C_below HR.out HA.out.below) HY.out.1 HY.out.2.1 HROW.out)) (fun hHeld => ?_)
          clear hK K
          refine norm_ (a' := ?_) ?_ ?_
          rotate_left
          · show Act.put _ (some 60) _ = _
            simp only [Act.put, List.setIfInBounds_toArray, List.set_cons_zero, List.set_cons_succ, i64_w, i32_w]
            rfl
          refine two_ (i := 18) (j := 21) (Ni := some 64) (Nj := some 13) #[true, true, true, true, true, true, true, true, true, true, true, true, true, true, true, true, true, true, true, false, false, false, false] #[true, true, true, true, true, true, true, true, true, true, true, true, true, true, true, true, true, true, false, false, false, true, false] rfl rfl rfl rfl (two_of HT_.out (by kernel_rfl)) (by decide) (by decide) (fun K hK => ?_) (fun K hK => ?_)
          · skip
            refine value_ (w1 := ?_) (v := ?_) (by rfl) rfl ?_ ?_
            rotate_left 2
            · go_simp
              constructor
              · rfl
              · rfl
            have hb := below_alloc (Below.refl w5.heap.size w5) (.cells #[.int .u8 (97 + y)] 5)
            replace HA := Aside0.mk (HA.out.under hb)
            replace HN := Aside0.mk (blk_below HN.out hb)
            replace HV := Aside0.mk (blk_below HV.out hb)
            clear hb
            have HS := Aside0.mk (show (w5.alloc (.cells #[.int .u8 (97 + y)] 5)).heap[w5.heap.size]? = some (.cells #[.int .u8 (97 + y)] 5) from heap_alloc_new w5 (.cells #[.int .u8 (97 + y)] 5))
            refine hK.out _ _ ((row_cell (Kd.C_below HR.out HA.out.below) HY.out.1 HY.out.2.1 HROW.out)) (fun hHeld => ?_)
            clear hK K
            refine norm_ (a' := ?_) ?_ ?_
            rotate_left
            · show Act.put _ (some 64) _ = _
              simp only [Act.put, List.setIfInBounds_toArray, List.set_cons_zero, List.set_cons_succ, i64_w, i32_w]
              rfl
            refine two_ (i := 19) (j := 21) (Ni := some 65) (Nj := some 13) #[true, true, true, true, true, true, true, true, true, true, true, true, true, true, true, true, true, true, true, true, false, false, false] #[true, true, true, true, true, true, true, true, true, true, true, true, true, true, true, true, true, true, true, false, false, true, false] rfl rfl rfl rfl (two_of HT_.out (by kernel_rfl)) (by decide) (by decide) (fun K hK => ?_) (fun K hK => ?_)
            · skip
              have hcv := conv_one HS.out
              refine value_ (w1 := ?_) (v := ?_) (by rfl) rfl ?_ ?_
              rotate_left 2
              · go_simp
                constructor
                · rfl
                · rfl
              clear hcv
              refine hK.out _ _ ((row_cell (Kd.C_below HR.out HA.out.below) HY.out.1 HY.out.2.1 HROW.out)) (fun hHeld => ?_)
              clear hK K
              refine norm_ (a' := ?_) ?_ ?_
              rotate_left
              · show Act.put _ (some 65) _ = _
                simp only [Act.put, List.setIfInBounds_toArray, List.set_cons_zero, List.set_cons_succ, i64_w, i32_w]
                rfl
              refine pure_ (i := 20) (N := some 66) (v := ?_) (a' := ?_) #[true, true, true, true, true, true, true, true, true, true, true, true, true, true, true, true, true, true, true, true, true, false, false] rfl rfl (any_of HT_.out (by kernel_rfl)) (fun _ _ _ h => h) (Or.inl ⟨by rfl, ?_⟩) ?_ ?_
              rotate_left
              · intro w'
                go_simp
                with_reducible rfl
              rotate_left
              · simp only [Act.put, List.setIfInBounds_toArray, List.set_cons_zero, List.set_cons_succ, i64_w, i32_w]
                rfl
              refine one_ (i := 21) (N := some 13) #[true, true, true, true, true, true, true, true, true, true, true, true, true, true, true, true, true, true, true, true, true, true, false] rfl rfl (one_of HT_.out (by kernel_rfl)) (by decide) (fun K hK => ?_)
              refine value_ (w1 := ?_) (v := ?_) (by rfl) rfl ?_ ?_
              rotate_left 2
              · go_simp
                constructor
                · rfl
                · rfl
              have hb := below_alloc (Below.refl (w5.alloc (.cells #[.int .u8 (97 + y)] 5)).heap.size (w5.alloc (.cells #[.int .u8 (97 + y)] 5))) (.cells #[.int .i64 0, .int .i64 0, .int .i64 0, .int .i64 0, .int .i64 0, .int .i64 0, .int .i64 0, .string ⟨#[]⟩, .string ⟨#[]⟩] 28)
              have HFX := Aside0.mk (fresh_at HA.out HN.out HV.out (b := w5.heap.size + 1) (World.size_alloc _ _))
              replace HA := Aside0.mk (HA.out.under hb)
              replace HN := Aside0.mk (blk_below HN.out hb)
              replace HV := Aside0.mk (blk_below HV.out hb)
              replace HS := Aside0.mk (blk_below HS.out hb)
              clear hb
              have HX := Aside0.mk (show ((w5.alloc (.cells #[.int .u8 (97 + y)] 5)).alloc (.cells #[.int .i64 0, .int .i64 0, .int .i64 0, .int .i64 0, .int .i64 0, .int .i64 0, .int .i64 0, .string ⟨#[]⟩, .string ⟨#[]⟩] 28)).heap[w5.heap.size + 1]? = some (.cells #[.int .i64 0, .int .i64 0, .int .i64 0, .int .i64 0, .int .i64 0, .int .i64 0, .int .i64 0, .string ⟨#[]⟩, .string ⟨#[]⟩] 28) from (two_new w5 (.cells #[.int .u8 (97 + y)] 5) (.cells #[.int .i64 0, .int .i64 0, .int .i64 0, .int .i64 0, .int .i64 0, .int .i64 0, .int .i64 0, .string ⟨#[]⟩, .string ⟨#[]⟩] 28)).2)
              refine hK.out _ _ ((row_cell (Kd.C_below HR.out HA.out.below) HY.out.1 HY.out.2.1 HROW.out)) (fun hHeld => ?_)
              clear hK K
              refine norm_ (a' := ?_) ?_ ?_
              rotate_left
              · show Act.put _ (some 13) _ = _
                simp only [Act.put, List.setIfInBounds_toArray, List.set_cons_zero, List.set_cons_succ, i64_w, i32_w]
                rfl
              exact norm_ (by simp only [putAll, Act.put, List.setIfInBounds_toArray, List.set_cons_zero, List.set_cons_succ]) (hCont (w5.heap.size, w5.heap.size + 1) _ ⟨(row_cell (Kd.C_below HR.out HA.out.below) HY.out.1 HY.out.2.1 HROW.out), HA.out, HN.out, HV.out, HX.out, HFX.out⟩)
            · skip
              refine value_ (w1 := ?_) (v := ?_) (by rfl) rfl ?_ ?_
              rotate_left 2
              · go_simp
                constructor
                · rfl
                · rfl
              have hb := below_alloc (Below.refl (w5.alloc (.cells #[.int .u8 (97 + y)] 5)).heap.size (w5.alloc (.cells #[.int .u8 (97 + y)] 5))) (.cells #[.int .i64 0, .int .i64 0, .int .i64 0, .int .i64 0, .int .i64 0, .int .i64 0, .int .i64 0, .string ⟨#[]⟩, .string ⟨#[]⟩] 28)
              have HFX := Aside0.mk (fresh_at HA.out HN.out HV.out (b := w5.heap.size + 1) (World.size_alloc _ _))
              replace HA := Aside0.mk (HA.out.under hb)
              replace HN := Aside0.mk (blk_below HN.out hb)
              replace HV := Aside0.mk (blk_below HV.out hb)
              replace HS := Aside0.mk (blk_below HS.out hb)
              clear hb
              have HX := Aside0.mk (show ((w5.alloc (.cells #[.int .u8 (97 + y)] 5)).alloc (.cells #[.int .i64 0, .int .i64 0, .int .i64 0, .int .i64 0, .int .i64 0, .int .i64 0, .int .i64 0, .string ⟨#[]⟩, .string ⟨#[]⟩] 28)).heap[w5.heap.size + 1]? = some (.cells #[.int .i64 0, .int .i64 0, .int .i64 0, .int .i64 0, .int .i64 0, .int .i64 0, .int .i64 0, .string ⟨#[]⟩, .string ⟨#[]⟩] 28) from (two_new w5 (.cells #[.int .u8 (97 + y)] 5) (.cells #[.int .i64 0, .int .i64 0, .int .i64 0, .int .i64 0, .int .i64 0, .int .i64 0, .int .i64 0, .string ⟨#[]⟩, .string ⟨#[]⟩] 28)).2)
              refine hK.out _ _ ((row_cell (Kd.C_below HR.out HA.out.below) HY.out.1 HY.out.2.1 HROW.out)) (fun hHeld => ?_)
              clear hK K
              refine norm_ (a' := ?_) ?_ ?_
              rotate_left
              · show Act.put _ (some 13) _ = _
                simp only [Act.put, List.setIfInBounds_toArray, List.set_cons_zero, List.set_cons_succ, i64_w, i32_w]
                rfl
              refine one_ (i := 19) (N := some 65) #[true, true, true, true, true, true, true, true, true, true, true, true, true, true, true, true, true, true, true, true, false, true, false] rfl rfl (one_of HT_.out (by kernel_rfl)) (by decide) (fun K hK => ?_)
              have hcv := conv_one HS.out
              refine value_ (w1 := ?_) (v := ?_) (by rfl) rfl ?_ ?_
              rotate_left 2
              · go_simp
                constructor
                · rfl
                · rfl
              clear hcv
              refine hK.out _ _ ((row_cell (Kd.C_below HR.out HA.out.below) HY.out.1 HY.out.2.1 HROW.out)) (fun hHeld => ?_)
              clear hK K
              refine norm_ (a' := ?_) ?_ ?_
              rotate_left
              · show Act.put _ (some 65) _ = _
                simp only [Act.put, List.setIfInBounds_toArray, List.set_cons_zero, List.set_cons_succ, i64_w, i32_w]
                rfl
              refine pure_ (i := 20) (N := some 66) (v := ?_) (a' := ?_) #[true, true, true, true, true, true, true, true, true, true, true, true, true, true, true, true, true, true, true, true, true, true, false] rfl rfl (any_of HT_.out (by kernel_rfl)) (fun _ _ _ h => h) (Or.inl ⟨by rfl, ?_⟩) ?_ ?_
              rotate_left
              · intro w'
                go_simp
                with_reducible rfl
              rotate_left
              · simp only [Act.put, List.setIfInBounds_toArray, List.set_cons_zero, List.set_cons_succ, i64_w, i32_w]
                rfl
              exact norm_ (by simp only [putAll, Act.put, List.setIfInBounds_toArray, List.set_cons_zero, List.set_cons_succ]) (hCont (w5.heap.size, w5.heap.size + 1) _ ⟨(row_cell (Kd.C_below HR.out HA.out.below) HY.out.1 HY.out.2.1 HROW.out), HA.out, HN.out, HV.out, HX.out, HFX.out⟩)
          · skip
            refine value_ (w1 := ?_) (v := ?_) (by rfl) rfl ?_ ?_
            rotate_left 2
            · go_simp
              constructor
              · rfl
              · rfl
            have hb := below_alloc (Below.refl w5.heap.size w5) (.cells #[.int .i64 0, .int .i64 0, .int .i64 0, .int .i64 0, .int .i64 0, .int .i64 0, .int .i64 0, .string ⟨#[]⟩, .string ⟨#[]⟩] 28)
            have HFX := Aside0.mk (fresh_at HA.out HN.out HV.out (b := w5.heap.size) (rfl))
            replace HA := Aside0.mk (HA.out.under hb)
            replace HN := Aside0.mk (blk_below HN.out hb)
            replace HV := Aside0.mk (blk_below HV.out hb)
            clear hb
            have HX := Aside0.mk (show (w5.alloc (.cells #[.int .i64 0, .int .i64 0, .int .i64 0, .int .i64 0, .int .i64 0, .int .i64 0, .int .i64 0, .string ⟨#[]⟩, .string ⟨#[]⟩] 28)).heap[w5.heap.size]? = some (.cells #[.int .i64 0, .int .i64 0, .int .i64 0, .int .i64 0, .int .i64 0, .int .i64 0, .int .i64 0, .string ⟨#[]⟩, .string ⟨#[]⟩] 28) from heap_alloc_new w5 (.cells #[.int .i64 0, .int .i64 0, .int .i64 0, .int .i64 0, .int .i64 0, .int .i64 0, .int .i64 0, .string ⟨#[]⟩, .string ⟨#[]⟩] 28))
            refine hK.out _ _ ((row_cell (Kd.C_below HR.out HA.out.below) HY.out.1 HY.out.2.1 HROW.out)) (fun hHeld => ?_)
            clear hK K
            refine norm_ (a' := ?_) ?_ ?_
            rotate_left
            · show Act.put _ (some 13) _ = _
              simp only [Act.put, List.setIfInBounds_toArray, List.set_cons_zero, List.set_cons_succ, i64_w, i32_w]
              rfl
            refine one_ (i := 18) (N := some 64) #[true, true, true, true, true, true, true, true, true, true, true, true, true, true, true, true, true, true, true, false, false, true, false] rfl rfl (one_of HT_.out (by kernel_rfl)) (by decide) (fun K hK => ?_)
            refine value_ (w1 := ?_) (v := ?_) (by rfl) rfl ?_ ?_
            rotate_left 2
            · go_simp
              constructor
              · rfl
              · rfl
            have hb := below_alloc (Below.refl (w5.alloc (.cells #[.int .i64 0, .int .i64 0, .int .i64 0, .int .i64 0, .int .i64 0, .int .i64 0, .int .i64 0, .string ⟨#[]⟩, .string ⟨#[]⟩] 28)).heap.size (w5.alloc (.cells #[.int .i64 0, .int .i64 0, .int .i64 0, .int .i64 0, .int .i64 0, .int .i64 0, .int .i64 0, .string ⟨#[]⟩, .string ⟨#[]⟩] 28))) (.cells #[.int .u8 (97 + y)] 5)
            replace HA := Aside0.mk (HA.out.under hb)
            replace HN := Aside0.mk (blk_below HN.out hb)
            replace HV := Aside0.mk (blk_below HV.out hb)
            replace HX := Aside0.mk (blk_below HX.out hb)
            clear hb
            have HS := Aside0.mk (show ((w5.alloc (.cells #[.int .i64 0, .int .i64 0, .int .i64 0, .int .i64 0, .int .i64 0, .int .i64 0, .int .i64 0, .string ⟨#[]⟩, .string ⟨#[]⟩] 28)).alloc (.cells #[.int .u8 (97 + y)] 5)).heap[w5.heap.size + 1]? = some (.cells #[.int .u8 (97 + y)] 5) from (two_new w5 (.cells #[.int .i64 0, .int .i64 0, .int .i64 0, .int .i64 0, .int .i64 0, .int .i64 0, .int .i64 0, .string ⟨#[]⟩, .string ⟨#[]⟩] 28) (.cells #[.int .u8 (97 + y)] 5)).2)
            refine hK.out _ _ ((row_cell (Kd.C_below HR.out HA.out.below) HY.out.1 HY.out.2.1 HROW.out)) (fun hHeld => ?_)
            clear hK K
            refine norm_ (a' := ?_) ?_ ?_
            rotate_left
            · show Act.put _ (some 64) _ = _
              simp only [Act.put, List.setIfInBounds_toArray, List.set_cons_zero, List.set_cons_succ, i64_w, i32_w]
              rfl
            refine one_ (i := 19) (N := some 65) #[true, true, true, true, true, true, true, true, true, true, true, true, true, true, true, true, true, true, true, true, false, true, false] rfl rfl (one_of HT_.out (by kernel_rfl)) (by decide) (fun K hK => ?_)
            have hcv := conv_one HS.out
            refine value_ (w1 := ?_) (v := ?_) (by rfl) rfl ?_ ?_
            rotate_left 2
            · go_simp
              constructor
              · rfl
              · rfl
            clear hcv
            refine hK.out _ _ ((row_cell (Kd.C_below HR.out HA.out.below) HY.out.1 HY.out.2.1 HROW.out)) (fun hHeld => ?_)
            clear hK K
            refine norm_ (a' := ?_) ?_ ?_
            rotate_left
            · show Act.put _ (some 65) _ = _
              simp only [Act.put, List.setIfInBounds_toArray, List.set_cons_zero, List.set_cons_succ, i64_w, i32_w]
              rfl
            refine pure_ (i := 20) (N := some 66) (v := ?_) (a' := ?_) #[true, true, true, true, true, true, true, true, true, true, true, true, true, true, true, true, true, true, true, true, true, true, false] rfl rfl (any_of HT_.out (by kernel_rfl)) (fun _ _ _ h => h) (Or.inl ⟨by rfl, ?_⟩) ?_ ?_
            rotate_left
            · intro w'
              go_simp
              with_reducible rfl
            rotate_left
            · simp only [Act.put, List.setIfInBounds_toArray, List.set_cons_zero, List.set_cons_succ, i64_w, i32_w]
              rfl
            exact norm_ (by simp only [putAll, Act.put, List.setIfInBounds_toArray, List.set_cons_zero, List.set_cons_succ]) (hCont (w5.heap.size + 1, w5.heap.size) _ ⟨(row_cell (Kd.C_below HR.out HA.out.below) HY.out.1 HY.out.2.1 HROW.out), HA.out, HN.out, HV.out, HX.out, HFX.out⟩)
        · skip
          refine value_ (w1 := ?_) (v := ?_) (by rfl) rfl ?_ ?_
          rotate_left 2
          · go_simp
            constructor
            · rfl
            · rfl
          have hb := below_new wr (.cells #[.int .u8 (97 + y)] 5)
          replace HA := Aside0.mk (HA.out.under hb)
          replace HN := Aside0.mk (blk_below HN.out hb)
          replace HV := Aside0.mk (blk_below HV.out hb)
          clear hb
          have HS := Aside0.mk (show (wr.alloc (.cells #[.int .u8 (97 + y)] 5)).drew.heap[wr.heap.size]? = some (.cells #[.int .u8 (97 + y)] 5) from heap_alloc_new wr (.cells #[.int .u8 (97 + y)] 5))
          refine hK.out _ _ ((row_cell (Kd.C_below HR.out HA.out.below) HY.out.1 HY.out.2.1 HROW.out)) (fun hHeld => ?_)
          clear hK K
          refine norm_ (a' := ?_) ?_ ?_
          rotate_left
          · show Act.put _ (some 64) _ = _
            simp only [Act.put, List.setIfInBounds_toArray, List.set_cons_zero, List.set_cons_succ, i64_w, i32_w]
            rfl
          refine three_ (i := 14) (j := 19) (k := 21) (Ni := some 60) (Nj := some 65) (Nk := some 13) #[true, true, true, true, true, true, true, true, true, true, true, true, true, true, true, true, true, true, true, false, false, false, false] #[true, true, true, true, true, true, true, true, true, true, true, true, true, true, false, true, true, true, true, true, false, false, false] #[true, true, true, true, true, true, true, true, true, true, true, true, true, true, false, true, true, true, true, false, false, true, false] rfl rfl rfl rfl rfl rfl (three_of HT_.out (by kernel_rfl)) (by decide) (by decide) (by decide) (fun K hK => ?_) (fun K hK => ?_) (fun K hK => ?_)
          · skip
            refine goes_ Tryd.func13 (by kernel_rfl) rfl #[.int .i64 1, .int .i64 1] (by rfl) rfl rfl (by simp only [List.map_toArray, List.map_cons, List.map_nil]; rfl) ?_
            with_reducible refine (samphirelaw11_at.calls _ _ _ _ _ rfl).mono ?_
            rintro e w5 ⟨rfl, hb⟩
            refine ⟨_, rfl, ?_⟩
            replace HA := Aside0.mk (HA.out.under hb)
            replace HN := Aside0.mk (blk_below HN.out hb)
            replace HV := Aside0.mk (blk_below HV.out hb)
            replace HS := Aside0.mk (blk_below HS.out hb)
            clear hb
            refine hK.out _ _ ((row_cell (Kd.C_below HR.out HA.out.below) HY.out.1 HY.out.2.1 HROW.out)) (fun hHeld => ?_)
            clear hK K
            refine norm_ (a' := ?_) ?_ ?_
            rotate_left
            · show Act.put _ (some 60) _ = _
              simp only [Act.put, List.setIfInBounds_toArray, List.set_cons_zero, List.set_cons_succ, i64_w, i32_w]
              rfl
            refine two_ (i := 19) (j := 21) (Ni := some 65) (Nj := some 13) #[true, true, true, true, true, true, true, true, true, true, true, true, true, true, true, true, true, true, true, true, false, false, false] #[true, true, true, true, true, true, true, true, true, true, true, true, true, true, true, true, true, true, true, false, false, true, false] rfl rfl rfl rfl (two_of HT_.out (by kernel_rfl)) (by decide) (by decide) (fun K hK => ?_) (fun K hK => ?_)
            · skip
              have hcv := conv_one HS.out
              refine value_ (w1 := ?_) (v := ?_) (by rfl) rfl ?_ ?_
              rotate_left 2
              · go_simp
                constructor
                · rfl
                · rfl
              clear hcv
              refine hK.out _ _ ((row_cell (Kd.C_below HR.out HA.out.below) HY.out.1 HY.out.2.1 HROW.out)) (fun hHeld => ?_)
              clear hK K
              refine norm_ (a' := ?_) ?_ ?_
              rotate_left
              · show Act.put _ (some 65) _ = _
                simp only [Act.put, List.setIfInBounds_toArray, List.set_cons_zero, List.set_cons_succ, i64_w, i32_w]
                rfl
              refine pure_ (i := 20) (N := some 66) (v := ?_) (a' := ?_) #[true, true, true, true, true, true, true, true, true, true, true, true, true, true, true, true, true, true, true, true, true, false, false] rfl rfl (any_of HT_.out (by kernel_rfl)) (fun _ _ _ h => h) (Or.inl ⟨by rfl, ?_⟩) ?_ ?_
              rotate_left
              · intro w'
                go_simp
                with_reducible rfl
              rotate_left
              · simp only [Act.put, List.setIfInBounds_toArray, List.set_cons_zero, List.set_cons_succ, i64_w, i32_w]
                rfl
              refine one_ (i := 21) (N := some 13) #[true, true, true, true, true, true, true, true, true, true, true, true, true, true, true, true, true, true, true, true, true, true, false] rfl rfl (one_of HT_.out (by kernel_rfl)) (by decide) (fun K hK => ?_)
              refine value_ (w1 := ?_) (v := ?_) (by rfl) rfl ?_ ?_
              rotate_left 2
              · go_simp
                constructor
                · rfl
                · rfl
              have hb := below_alloc (Below.refl w5.heap.size w5) (.cells #[.int .i64 0, .int .i64 0, .int .i64 0, .int .i64 0, .int .i64 0, .int .i64 0, .int .i64 0, .string ⟨#[]⟩, .string ⟨#[]⟩] 28)
              have HFX := Aside0.mk (fresh_at HA.out HN.out HV.out (b := w5.heap.size) (rfl))
              replace HA := Aside0.mk (HA.out.under hb)
              replace HN := Aside0.mk (blk_below HN.out hb)
              replace HV := Aside0.mk (blk_below HV.out hb)
              replace HS := Aside0.mk (blk_below HS.out hb)
              clear hb
              have HX := Aside0.mk (show (w5.alloc (.cells #[.int .i64 0, .int .i64 0, .int .i64 0, .int .i64 0, .int .i64 0, .int .i64 0, .int .i64 0, .string ⟨#[]⟩, .string ⟨#[]⟩] 28)).heap[w5.heap.size]? = some (.cells #[.int .i64 0, .int .i64 0, .int .i64 0, .int .i64 0, .int .i64 0, .int .i64 0, .int .i64 0, .string ⟨#[]⟩, .string ⟨#[]⟩] 28) from heap_alloc_new w5 (.cells #[.int .i64 0, .int .i64 0, .int .i64 0, .int .i64 0, .int .i64 0, .int .i64 0, .int .i64 0, .string ⟨#[]⟩, .string ⟨#[]⟩] 28))
              refine hK.out _ _ ((row_cell (Kd.C_below HR.out HA.out.below) HY.out.1 HY.out.2.1 HROW.out)) (fun hHeld => ?_)
              clear hK K
              refine norm_ (a' := ?_) ?_ ?_
              rotate_left
              · show Act.put _ (some 13) _ = _
                simp only [Act.put, List.setIfInBounds_toArray, List.set_cons_zero, List.set_cons_succ, i64_w, i32_w]
                rfl
              exact norm_ (by simp only [putAll, Act.put, List.setIfInBounds_toArray, List.set_cons_zero, List.set_cons_succ]) (hCont (wr.heap.size, w5.heap.size) _ ⟨(row_cell (Kd.C_below HR.out HA.out.below) HY.out.1 HY.out.2.1 HROW.out), HA.out, HN.out, HV.out, HX.out, HFX.out⟩)
            · skip
              refine value_ (w1 := ?_) (v := ?_) (by rfl) rfl ?_ ?_
              rotate_left 2
              · go_simp
                constructor
                · rfl
                · rfl
              have hb := below_alloc (Below.refl w5.heap.size w5) (.cells #[.int .i64 0, .int .i64 0, .int .i64 0, .int .i64 0, .int .i64 0, .int .i64 0, .int .i64 0, .string ⟨#[]⟩, .string ⟨#[]⟩] 28)
              have HFX := Aside0.mk (fresh_at HA.out HN.out HV.out (b := w5.heap.size) (rfl))
              replace HA := Aside0.mk (HA.out.under hb)
              replace HN := Aside0.mk (blk_below HN.out hb)
              replace HV := Aside0.mk (blk_below HV.out hb)
              replace HS := Aside0.mk (blk_below HS.out hb)
              clear hb
              have HX := Aside0.mk (show (w5.alloc (.cells #[.int .i64 0, .int .i64 0, .int .i64 0, .int .i64 0, .int .i64 0, .int .i64 0, .int .i64 0, .string ⟨#[]⟩, .string ⟨#[]⟩] 28)).heap[w5.heap.size]? = some (.cells #[.int .i64 0, .int .i64 0, .int .i64 0, .int .i64 0, .int .i64 0, .int .i64 0, .int .i64 0, .string ⟨#[]⟩, .string ⟨#[]⟩] 28) from heap_alloc_new w5 (.cells #[.int .i64 0, .int .i64 0, .int .i64 0, .int .i64 0, .int .i64 0, .int .i64 0, .int .i64 0, .string ⟨#[]⟩, .string ⟨#[]⟩] 28))
              refine hK.out _ _ ((row_cell (Kd.C_below HR.out HA.out.below) HY.out.1 HY.out.2.1 HROW.out)) (fun hHeld => ?_)
              clear hK K
              refine norm_ (a' := ?_) ?_ ?_
              rotate_left
              · show Act.put _ (some 13) _ = _
                simp only [Act.put, List.setIfInBounds_toArray, List.set_cons_zero, List.set_cons_succ, i64_w, i32_w]
                rfl
              refine one_ (i := 19) (N := some 65) #[true, true, true, true, true, true, true, true, true, true, true, true, true, true, true, true, true, true, true, true, false, true, false] rfl rfl (one_of HT_.out (by kernel_rfl)) (by decide) (fun K hK => ?_)
              have hcv := conv_one HS.out
              refine value_ (w1 := ?_) (v := ?_) (by rfl) rfl ?_ ?_
              rotate_left 2
              · go_simp
                constructor
                · rfl
                · rfl
              clear hcv
              refine hK.out _ _ ((row_cell (Kd.C_below HR.out HA.out.below) HY.out.1 HY.out.2.1 HROW.out)) (fun hHeld => ?_)
              clear hK K
              refine norm_ (a' := ?_) ?_ ?_
              rotate_left
              · show Act.put _ (some 65) _ = _
                simp only [Act.put, List.setIfInBounds_toArray, List.set_cons_zero, List.set_cons_succ, i64_w, i32_w]
                rfl
              refine pure_ (i := 20) (N := some 66) (v := ?_) (a' := ?_) #[true, true, true, true, true, true, true, true, true, true, true, true, true, true, true, true, true, true, true, true, true, true, false] rfl rfl (any_of HT_.out (by kernel_rfl)) (fun _ _ _ h => h) (Or.inl ⟨by rfl, ?_⟩) ?_ ?_
              rotate_left
              · intro w'
                go_simp
                with_reducible rfl
              rotate_left
              · simp only [Act.put, List.setIfInBounds_toArray, List.set_cons_zero, List.set_cons_succ, i64_w, i32_w]
                rfl
              exact norm_ (by simp only [putAll, Act.put, List.setIfInBounds_toArray, List.set_cons_zero, List.set_cons_succ]) (hCont (wr.heap.size, w5.heap.size) _ ⟨(row_cell (Kd.C_below HR.out HA.out.below) HY.out.1 HY.out.2.1 HROW.out), HA.out, HN.out, HV.out, HX.out, HFX.out⟩)
          · skip
            have hcv := conv_one HS.out
            refine value_ (w1 := ?_) (v := ?_) (by rfl) rfl ?_ ?_
            rotate_left 2
            · go_simp
              constructor
              · rfl
              · rfl
            clear hcv
            refine hK.out _ _ ((row_cell (Kd.C_below HR.out HA.out.below) HY.out.1 HY.out.2.1 HROW.out)) (fun hHeld => ?_)
            clear hK K
            refine norm_ (a' := ?_) ?_ ?_
            rotate_left
            · show Act.put _ (some 65) _ = _
              simp only [Act.put, List.setIfInBounds_toArray, List.set_cons_zero, List.set_cons_succ, i64_w, i32_w]
              rfl
            refine two_ (i := 14) (j := 21) (Ni := some 60) (Nj := some 13) #[true, true, true, true, true, true, true, true, true, true, true, true, true, true, true, true, true, true, true, true, false, false, false] #[true, true, true, true, true, true, true, true, true, true, true, true, true, true, false, true, true, true, true, true, false, true, false] rfl rfl rfl rfl (two_of HT_.out (by kernel_rfl)) (by decide) (by decide) (fun K hK => ?_) (fun K hK => ?_)
            · skip
              refine goes_ Tryd.func13 (by kernel_rfl) rfl #[.int .i64 1, .int .i64 1] (by rfl) rfl rfl (by simp only [List.map_toArray, List.map_cons, List.map_nil]; rfl) ?_
              with_reducible refine (samphirelaw11_at.calls _ _ _ _ _ rfl).mono ?_
              rintro e w5 ⟨rfl, hb⟩
              refine ⟨_, rfl, ?_⟩
              replace HA := Aside0.mk (HA.out.under hb)
              replace HN := Aside0.mk (blk_below HN.out hb)
              replace HV := Aside0.mk (blk_below HV.out hb)
              replace HS := Aside0.mk (blk_below HS.out hb)
              clear hb
              refine hK.out _ _ ((row_cell (Kd.C_below HR.out HA.out.below) HY.out.1 HY.out.2.1 HROW.out)) (fun hHeld => ?_)
              clear hK K
              refine norm_ (a' := ?_) ?_ ?_
              rotate_left
              · show Act.put _ (some 60) _ = _
                simp only [Act.put, List.setIfInBounds_toArray, List.set_cons_zero, List.set_cons_succ, i64_w, i32_w]
                rfl
              refine pure_ (i := 20) (N := some 66) (v := ?_) (a' := ?_) #[true, true, true, true, true, true, true, true, true, true, true, true, true, true, true, true, true, true, true, true, true, false, false] rfl rfl (any_of HT_.out (by kernel_rfl)) (fun _ _ _ h => h) (Or.inl ⟨by rfl, ?_⟩) ?_ ?_
              rotate_left
              · intro w'
                go_simp
                with_reducible rfl
              rotate_left
              · simp only [Act.put, List.setIfInBounds_toArray, List.set_cons_zero, List.set_cons_succ, i64_w, i32_w]
                rfl
              refine one_ (i := 21) (N := some 13) #[true, true, true, true, true, true, true, true, true, true, true, true, true, true, true, true, true, true, true, true, true, true, false] rfl rfl (one_of HT_.out (by kernel_rfl)) (by decide) (fun K hK => ?_)
              refine value_ (w1 := ?_) (v := ?_) (by rfl) rfl ?_ ?_
              rotate_left 2
              · go_simp
                constructor
                · rfl
                · rfl
              have hb := below_alloc (Below.refl w5.heap.size w5) (.cells #[.int .i64 0, .int .i64 0, .int .i64 0, .int .i64 0, .int .i64 0, .int .i64 0, .int .i64 0, .string ⟨#[]⟩, .string ⟨#[]⟩] 28)
              have HFX := Aside0.mk (fresh_at HA.out HN.out HV.out (b := w5.heap.size) (rfl))
              replace HA := Aside0.mk (HA.out.under hb)
              replace HN := Aside0.mk (blk_below HN.out hb)
              replace HV := Aside0.mk (blk_below HV.out hb)
              replace HS := Aside0.mk (blk_below HS.out hb)
              clear hb
              have HX := Aside0.mk (show (w5.alloc (.cells #[.int .i64 0, .int .i64 0, .int .i64 0, .int .i64 0, .int .i64 0, .int .i64 0, .int .i64 0, .string ⟨#[]⟩, .string ⟨#[]⟩] 28)).heap[w5.heap.size]? = some (.cells #[.int .i64 0, .int .i64 0, .int .i64 0, .int .i64 0, .int .i64 0, .int .i64 0, .int .i64 0, .string ⟨#[]⟩, .string ⟨#[]⟩] 28) from heap_alloc_new w5 (.cells #[.int .i64 0, .int .i64 0, .int .i64 0, .int .i64 0, .int .i64 0, .int .i64 0, .int .i64 0, .string ⟨#[]⟩, .string ⟨#[]⟩] 28))
              refine hK.out _ _ ((row_cell (Kd.C_below HR.out HA.out.below) HY.out.1 HY.out.2.1 HROW.out)) (fun hHeld => ?_)
              clear hK K
              refine norm_ (a' := ?_) ?_ ?_
              rotate_left
              · show Act.put _ (some 13) _ = _
                simp only [Act.put, List.setIfInBounds_toArray, List.set_cons_zero, List.set_cons_succ, i64_w, i32_w]
                rfl
              exact norm_ (by simp only [putAll, Act.put, List.setIfInBounds_toArray, List.set_cons_zero, List.set_cons_succ]) (hCont (wr.heap.size, w5.heap.size) _ ⟨(row_cell (Kd.C_below HR.out HA.out.below) HY.out.1 HY.out.2.1 HROW.out), HA.out, HN.out, HV.out, HX.out, HFX.out⟩)
            · skip
              refine value_ (w1 := ?_) (v := ?_) (by rfl) rfl ?_ ?_
              rotate_left 2
              · go_simp
                constructor
                · rfl
                · rfl
              have hb := below_new (wr.alloc (.cells #[.int .u8 (97 + y)] 5)) (.cells #[.int .i64 0, .int .i64 0, .int .i64 0, .int .i64 0, .int .i64 0, .int .i64 0, .int .i64 0, .string ⟨#[]⟩, .string ⟨#[]⟩] 28)
              have HFX := Aside0.mk (fresh_at HA.out HN.out HV.out (b := wr.heap.size + 1) (World.size_alloc _ _))
              replace HA := Aside0.mk (HA.out.under hb)
              replace HN := Aside0.mk (blk_below HN.out hb)
              replace HV := Aside0.mk (blk_below HV.out hb)
              replace HS := Aside0.mk (blk_below HS.out hb)
              clear hb
              have HX := Aside0.mk (show ((wr.alloc (.cells #[.int .u8 (97 + y)] 5)).alloc (.cells #[.int .i64 0, .int .i64 0, .int .i64 0, .int .i64 0, .int .i64 0, .int .i64 0, .int .i64 0, .string ⟨#[]⟩, .string ⟨#[]⟩] 28)).drew.heap[wr.heap.size + 1]? = some (.cells #[.int .i64 0, .int .i64 0, .int .i64 0, .int .i64 0, .int .i64 0, .int .i64 0, .int .i64 0, .string ⟨#[]⟩, .string ⟨#[]⟩] 28) from (two_new wr (.cells #[.int .u8 (97 + y)] 5) (.cells #[.int .i64 0, .int .i64 0, .int .i64 0, .int .i64 0, .int .i64 0, .int .i64 0, .int .i64 0, .string ⟨#[]⟩, .string ⟨#[]⟩] 28)).2)
              refine hK.out _ _ ((row_cell (Kd.C_below HR.out HA.out.below) HY.out.1 HY.out.2.1 HROW.out)) (fun hHeld => ?_)
              clear hK K
              refine norm_ (a' := ?_) ?_ ?_
              rotate_left
              · show Act.put _ (some 13) _ = _
                simp only [Act.put, List.setIfInBounds_toArray, List.set_cons_zero, List.set_cons_succ, i64_w, i32_w]
                rfl
              refine one_ (i := 14) (N := some 60) #[true, true, true, true, true, true, true, true, true, true, true, true, true, true, true, true, true, true, true, true, false, true, false] rfl rfl (one_of HT_.out (by kernel_rfl)) (by decide) (fun K hK => ?_)
              refine goes_ Tryd.func13 (by kernel_rfl) rfl #[.int .i64 1, .int .i64 1] (by rfl) rfl rfl (by simp only [List.map_toArray, List.map_cons, List.map_nil]; rfl) ?_
              with_reducible refine (samphirelaw11_at.calls _ _ _ _ _ rfl).mono ?_
              rintro e w5 ⟨rfl, hb⟩
              refine ⟨_, rfl, ?_⟩
              replace HA := Aside0.mk (HA.out.under hb)
              replace HN := Aside0.mk (blk_below HN.out hb)
              replace HV := Aside0.mk (blk_below HV.out hb)
              replace HS := Aside0.mk (blk_below HS.out hb)
              replace HX := Aside0.mk (blk_below HX.out hb)
              clear hb
              refine hK.out _ _ ((row_cell (Kd.C_below HR.out HA.out.below) HY.out.1 HY.out.2.1 HROW.out)) (fun hHeld => ?_)
              clear hK K
              refine norm_ (a' := ?_) ?_ ?_
              rotate_left
              · show Act.put _ (some 60) _ = _
                simp only [Act.put, List.setIfInBounds_toArray, List.set_cons_zero, List.set_cons_succ, i64_w, i32_w]
                rfl
              refine pure_ (i := 20) (N := some 66) (v := ?_) (a' := ?_) #[true, true, true, true, true, true, true, true, true, true, true, true, true, true, true, true, true, true, true, true, true, true, false] rfl rfl (any_of HT_.out (by kernel_rfl)) (fun _ _ _ h => h) (Or.inl ⟨by rfl, ?_⟩) ?_ ?_
              rotate_left
              · intro w'
                go_simp
                with_reducible rfl
              rotate_left
              · simp only [Act.put, List.setIfInBounds_toArray, List.set_cons_zero, List.set_cons_succ, i64_w, i32_w]
                rfl
              exact norm_ (by simp only [putAll, Act.put, List.setIfInBounds_toArray, List.set_cons_zero, List.set_cons_succ]) (hCont (wr.heap.size, wr.heap.size + 1) _ ⟨(row_cell (Kd.C_below HR.out HA.out.below) HY.out.1 HY.out.2.1 HROW.out), HA.out, HN.out, HV.out, HX.out, HFX.out⟩)
          · skip
            refine value_ (w1 := ?_) (v := ?_) (by rfl) rfl ?_ ?_
            rotate_left 2
            · go_simp
              constructor
              · rfl
              · rfl
            have hb := below_new (wr.alloc (.cells #[.int .u8 (97 + y)] 5)) (.cells #[.int .i64 0, .int .i64 0, .int .i64 0, .int .i64 0, .int .i64 0, .int .i64 0, .int .i64 0, .string ⟨#[]⟩, .string ⟨#[]⟩] 28)
            have HFX := Aside0.mk (fresh_at HA.out HN.out HV.out (b := wr.heap.size + 1) (World.size_alloc _ _))
            replace HA := Aside0.mk (HA.out.under hb)
            replace HN := Aside0.mk (blk_below HN.out hb)
            replace HV := Aside0.mk (blk_below HV.out hb)
            replace HS := Aside0.mk (blk_below HS.out hb)
            clear hb
            have HX := Aside0.mk (show ((wr.alloc (.cells #[.int .u8 (97 + y)] 5)).alloc (.cells #[.int .i64 0, .int .i64 0, .int .i64 0, .int .i64 0, .int .i64 0, .int .i64 0, .int .i64 0, .string ⟨#[]⟩, .string ⟨#[]⟩] 28)).drew.heap[wr.heap.size + 1]? = some (.cells #[.int .i64 0, .int .i64 0, .int .i64 0, .int .i64 0, .int .i64 0, .int .i64 0, .int .i64 0, .string ⟨#[]⟩, .string ⟨#[]⟩] 28) from (two_new wr (.cells #[.int .u8 (97 + y)] 5) (.cells #[.int .i64 0, .int .i64 0, .int .i64 0, .int .i64 0, .int .i64 0, .int .i64 0, .int .i64 0, .string ⟨#[]⟩, .string ⟨#[]⟩] 28)).2)
            refine hK.out _ _ ((row_cell (Kd.C_below HR.out HA.out.below) HY.out.1 HY.out.2.1 HROW.out)) (fun hHeld => ?_)
            clear hK K
            refine norm_ (a' := ?_) ?_ ?_
            rotate_left
            · show Act.put _ (some 13) _ = _
              simp only [Act.put, List.setIfInBounds_toArray, List.set_cons_zero, List.set_cons_succ, i64_w, i32_w]
              rfl
            refine two_ (i := 14) (j := 19) (Ni := some 60) (Nj := some 65) #[true, true, true, true, true, true, true, true, true, true, true, true, true, true, true, true, true, true, true, false, false, true, false] #[true, true, true, true, true, true, true, true, true, true, true, true, true, true, false, true, true, true, true, true, false, true, false] rfl rfl rfl rfl (two_of HT_.out (by kernel_rfl)) (by decide) (by decide) (fun K hK => ?_) (fun K hK => ?_)
            · skip
              refine goes_ Tryd.func13 (by kernel_rfl) rfl #[.int .i64 1, .int .i64 1] (by rfl) rfl rfl (by simp only [List.map_toArray, List.map_cons, List.map_nil]; rfl) ?_
              with_reducible refine (samphirelaw11_at.calls _ _ _ _ _ rfl).mono ?_
              rintro e w5 ⟨rfl, hb⟩
              refine ⟨_, rfl, ?_⟩
              replace HA := Aside0.mk (HA.out.under hb)
              replace HN := Aside0.mk (blk_below HN.out hb)
              replace HV := Aside0.mk (blk_below HV.out hb)
              replace HS := Aside0.mk (blk_below HS.out hb)
              replace HX := Aside0.mk (blk_below HX.out hb)
              clear hb
              refine hK.out _ _ ((row_cell (Kd.C_below HR.out HA.out.below) HY.out.1 HY.out.2.1 HROW.out)) (fun hHeld => ?_)
              clear hK K
              refine norm_ (a' := ?_) ?_ ?_
              rotate_left
              · show Act.put _ (some 60) _ = _
                simp only [Act.put, List.setIfInBounds_toArray, List.set_cons_zero, List.set_cons_succ, i64_w, i32_w]
                rfl
              refine one_ (i := 19) (N := some 65) #[true, true, true, true, true, true, true, true, true, true, true, true, true, true, true, true, true, true, true, true, false, true, false] rfl rfl (one_of HT_.out (by kernel_rfl)) (by decide) (fun K hK => ?_)
              have hcv := conv_one HS.out
              refine value_ (w1 := ?_) (v := ?_) (by rfl) rfl ?_ ?_
              rotate_left 2
              · go_simp
                constructor
                · rfl
                · rfl
              clear hcv
              refine hK.out _ _ ((row_cell (Kd.C_below HR.out HA.out.below) HY.out.1 HY.out.2.1 HROW.out)) (fun hHeld => ?_)
              clear hK K
              refine norm_ (a' := ?_) ?_ ?_
              rotate_left
              · show Act.put _ (some 65) _ = _
                simp only [Act.put, List.setIfInBounds_toArray, List.set_cons_zero, List.set_cons_succ, i64_w, i32_w]
                rfl
              refine pure_ (i := 20) (N := some 66) (v := ?_) (a' := ?_) #[true, true, true, true, true, true, true, true, true, true, true, true, true, true, true, true, true, true, true, true, true, true, false] rfl rfl (any_of HT_.out (by kernel_rfl)) (fun _ _ _ h => h) (Or.inl ⟨by rfl, ?_⟩) ?_ ?_
              rotate_left
              · intro w'
                go_simp
                with_reducible rfl
              rotate_left
              · simp only [Act.put, List.setIfInBounds_toArray, List.set_cons_zero, List.set_cons_succ, i64_w, i32_w]
                rfl
              exact norm_ (by simp only [putAll, Act.put, List.setIfInBounds_toArray, List.set_cons_zero, List.set_cons_succ]) (hCont (wr.heap.size, wr.heap.size + 1) _ ⟨(row_cell (Kd.C_below HR.out HA.out.below) HY.out.1 HY.out.2.1 HROW.out), HA.out, HN.out, HV.out, HX.out, HFX.out⟩)
            · skip
              have hcv := conv_one HS.out
              refine value_ (w1 := ?_) (v := ?_) (by rfl) rfl ?_ ?_
              rotate_left 2
              · go_simp
                constructor
                · rfl
                · rfl
              clear hcv
              refine hK.out _ _ ((row_cell (Kd.C_below HR.out HA.out.below) HY.out.1 HY.out.2.1 HROW.out)) (fun hHeld => ?_)
              clear hK K
              refine norm_ (a' := ?_) ?_ ?_
              rotate_left
              · show Act.put _ (some 65) _ = _
                simp only [Act.put, List.setIfInBounds_toArray, List.set_cons_zero, List.set_cons_succ, i64_w, i32_w]
                rfl
              refine one_ (i := 14) (N := some 60) #[true, true, true, true, true, true, true, true, true, true, true, true, true, true, true, true, true, true, true, true, false, true, false] rfl rfl (one_of HT_.out (by kernel_rfl)) (by decide) (fun K hK => ?_)
              refine goes_ Tryd.func13 (by kernel_rfl) rfl #[.int .i64 1, .int .i64 1] (by rfl) rfl rfl (by simp only [List.map_toArray, List.map_cons, List.map_nil]; rfl) ?_
              with_reducible refine (samphirelaw11_at.calls _ _ _ _ _ rfl).mono ?_
              rintro e w5 ⟨rfl, hb⟩
              refine ⟨_, rfl, ?_⟩
              replace HA := Aside0.mk (HA.out.under hb)
              replace HN := Aside0.mk (blk_below HN.out hb)
              replace HV := Aside0.mk (blk_below HV.out hb)
              replace HS := Aside0.mk (blk_below HS.out hb)
              replace HX := Aside0.mk (blk_below HX.out hb)
              clear hb
              refine hK.out _ _ ((row_cell (Kd.C_below HR.out HA.out.below) HY.out.1 HY.out.2.1 HROW.out)) (fun hHeld => ?_)
              clear hK K
              refine norm_ (a' := ?_) ?_ ?_
              rotate_left
              · show Act.put _ (some 60) _ = _
                simp only [Act.put, List.setIfInBounds_toArray, List.set_cons_zero, List.set_cons_succ, i64_w, i32_w]
                rfl
              refine pure_ (i := 20) (N := some 66) (v := ?_) (a' := ?_) #[true, true, true, true, true, true, true, true, true, true, true, true, true, true, true, true, true, true, true, true, true, true, false] rfl rfl (any_of HT_.out (by kernel_rfl)) (fun _ _ _ h => h) (Or.inl ⟨by rfl, ?_⟩) ?_ ?_
              rotate_left
              · intro w'
                go_simp
                with_reducible rfl
              rotate_left
              · simp only [Act.put, List.setIfInBounds_toArray, List.set_cons_zero, List.set_cons_succ, i64_w, i32_w]
                rfl
              exact norm_ (by simp only [putAll, Act.put, List.setIfInBounds_toArray, List.set_cons_zero, List.set_cons_succ]) (hCont (wr.heap.size, wr.heap.size + 1) _ ⟨(row_cell (Kd.C_below HR.out HA.out.below) HY.out.1 HY.out.2.1 HROW.out), HA.out, HN.out, HV.out, HX.out, HFX.out⟩)
        · skip
          refine value_ (w1 := ?_) (v := ?_) (by rfl) rfl ?_ ?_
          rotate_left 2
          · go_simp
            constructor
            · rfl
            · rfl
          have hb := below_new wr (.cells #[.int .i64 0, .int .i64 0, .int .i64 0, .int .i64 0, .int .i64 0, .int .i64 0, .int .i64 0, .string ⟨#[]⟩, .string ⟨#[]⟩] 28)
          have HFX := Aside0.mk (fresh_at HA.out HN.out HV.out (b := wr.heap.size) (rfl))
          replace HA := Aside0.mk (HA.out.under hb)
          replace HN := Aside0.mk (blk_below HN.out hb)
          replace HV := Aside0.mk (blk_below HV.out hb)
          clear hb
          have HX := Aside0.mk (show (wr.alloc (.cells #[.int .i64 0, .int .i64 0, .int .i64 0, .int .i64 0, .int .i64 0, .int .i64 0, .int .i64 0, .string ⟨#[]⟩, .string ⟨#[]⟩] 28)).drew.heap[wr.heap.size]? = some (.cells #[.int .i64 0, .int .i64 0, .int .i64 0, .int .i64 0, .int .i64 0, .int .i64 0, .int .i64 0, .string ⟨#[]⟩, .string ⟨#[]⟩] 28) from heap_alloc_new wr (.cells #[.int .i64 0, .int .i64 0, .int .i64 0, .int .i64 0, .int .i64 0, .int .i64 0, .int .i64 0, .string ⟨#[]⟩, .string ⟨#[]⟩] 28))
          refine hK.out _ _ ((row_cell (Kd.C_below HR.out HA.out.below) HY.out.1 HY.out.2.1 HROW.out)) (fun hHeld => ?_)
          clear hK K
          refine norm_ (a' := ?_) ?_ ?_
          rotate_left
          · show Act.put _ (some 13) _ = _
            simp only [Act.put, List.setIfInBounds_toArray, List.set_cons_zero, List.set_cons_succ, i64_w, i32_w]
            rfl
          refine two_ (i := 14) (j := 18) (Ni := some 60) (Nj := some 64) #[true, true, true, true, true, true, true, true, true, true, true, true, true, true, true, true, true, true, false, false, false, true, false] #[true, true, true, true, true, true, true, true, true, true, true, true, true, true, false, true, true, true, true, false, false, true, false] rfl rfl rfl rfl (two_of HT_.out (by kernel_rfl)) (by decide) (by decide) (fun K hK => ?_) (fun K hK => ?_)
          · skip
            refine goes_ Tryd.func13 (by kernel_rfl) rfl #[.int .i64 1, .int .i64 1] (by rfl) rfl rfl (by simp only [List.map_toArray, List.map_cons, List.map_nil]; rfl) ?_
            with_reducible refine (samphirelaw11_at.calls _ _ _ _ _ rfl).mono ?_
            rintro e w5 ⟨rfl, hb⟩
            refine ⟨_, rfl, ?_⟩
            replace HA := Aside0.mk (HA.out.under hb)
            replace HN := Aside0.mk (blk_below HN.out hb)
            replace HV := Aside0.mk (blk_below HV.out hb)
            replace HX := Aside0.mk (blk_below HX.out hb)
            clear hb
            refine hK.out _ _ ((row_cell (Kd.C_below HR.out HA.out.below) HY.out.1 HY.out.2.1 HROW.out)) (fun hHeld => ?_)
            clear hK K
            refine norm_ (a' := ?_) ?_ ?_
            rotate_left
            · show Act.put _ (some 60) _ = _
              simp only [Act.put, List.setIfInBounds_toArray, List.set_cons_zero, List.set_cons_succ, i64_w, i32_w]
              rfl
            refine one_ (i := 18) (N := some 64) #[true, true, true, true, true, true, true, true, true, true, true, true, true, true, true, true, true, true, true, false, false, true, false] rfl rfl (one_of HT_.out (by kernel_rfl)) (by decide) (fun K hK => ?_)
            refine value_ (w1 := ?_) (v := ?_) (by rfl) rfl ?_ ?_
            rotate_left 2
            · go_simp
              constructor
              · rfl
              · rfl
            have hb := below_alloc (Below.refl w5.heap.size w5) (.cells #[.int .u8 (97 + y)] 5)
            replace HA := Aside0.mk (HA.out.under hb)
            replace HN := Aside0.mk (blk_below HN.out hb)
            replace HV := Aside0.mk (blk_below HV.out hb)
            replace HX := Aside0.mk (blk_below HX.out hb)
            clear hb
            have HS := Aside0.mk (show (w5.alloc (.cells #[.int .u8 (97 + y)] 5)).heap[w5.heap.size]? = some (.cells #[.int .u8 (97 + y)] 5) from heap_alloc_new w5 (.cells #[.int .u8 (97 + y)] 5))
            refine hK.out _ _ ((row_cell (Kd.C_below HR.out HA.out.below) HY.out.1 HY.out.2.1 HROW.out)) (fun hHeld => ?_)
            clear hK K
            refine norm_ (a' := ?_) ?_ ?_
            rotate_left
            · show Act.put _ (some 64) _ = _
              simp only [Act.put, List.setIfInBounds_toArray, List.set_cons_zero, List.set_cons_succ, i64_w, i32_w]
              rfl
            refine one_ (i := 19) (N := some 65) #[true, true, true, true, true, true, true, true, true, true, true, true, true, true, true, true, true, true, true, true, false, true, false] rfl rfl (one_of HT_.out (by kernel_rfl)) (by decide) (fun K hK => ?_)
            have hcv := conv_one HS.out
            refine value_ (w1 := ?_) (v := ?_) (by rfl) rfl ?_ ?_
            rotate_left 2
            · go_simp
              constructor
              · rfl
              · rfl
            clear hcv
            refine hK.out _ _ ((row_cell (Kd.C_below HR.out HA.out.below) HY.out.1 HY.out.2.1 HROW.out)) (fun hHeld => ?_)
            clear hK K
            refine norm_ (a' := ?_) ?_ ?_
            rotate_left
            · show Act.put _ (some 65) _ = _
              simp only [Act.put, List.setIfInBounds_toArray, List.set_cons_zero, List.set_cons_succ, i64_w, i32_w]
              rfl
            refine pure_ (i := 20) (N := some 66) (v := ?_) (a' := ?_) #[true, true, true, true, true, true, true, true, true, true, true, true, true, true, true, true, true, true, true, true, true, true, false] rfl rfl (any_of HT_.out (by kernel_rfl)) (fun _ _ _ h => h) (Or.inl ⟨by rfl, ?_⟩) ?_ ?_
            rotate_left
            · intro w'
              go_simp
              with_reducible rfl
            rotate_left
            · simp only [Act.put, List.setIfInBounds_toArray, List.set_cons_zero, List.set_cons_succ, i64_w, i32_w]
              rfl
            exact norm_ (by simp only [putAll, Act.put, List.setIfInBounds_toArray, List.set_cons_zero, List.set_cons_succ]) (hCont (w5.heap.size, wr.heap.size) _ ⟨(row_cell (Kd.C_below HR.out HA.out.below) HY.out.1 HY.out.2.1 HROW.out), HA.out, HN.out, HV.out, HX.out, HFX.out⟩)
          · skip
            refine value_ (w1 := ?_) (v := ?_) (by rfl) rfl ?_ ?_
            rotate_left 2
            · go_simp
              constructor
              · rfl
              · rfl
            have hb := below_new (wr.alloc (.cells #[.int .i64 0, .int .i64 0, .int .i64 0, .int .i64 0, .int .i64 0, .int .i64 0, .int .i64 0, .string ⟨#[]⟩, .string ⟨#[]⟩] 28)) (.cells #[.int .u8 (97 + y)] 5)
            replace HA := Aside0.mk (HA.out.under hb)
            replace HN := Aside0.mk (blk_below HN.out hb)
            replace HV := Aside0.mk (blk_below HV.out hb)
            replace HX := Aside0.mk (blk_below HX.out hb)
            clear hb
            have HS := Aside0.mk (show ((wr.alloc (.cells #[.int .i64 0, .int .i64 0, .int .i64 0, .int .i64 0, .int .i64 0, .int .i64 0, .int .i64 0, .string ⟨#[]⟩, .string ⟨#[]⟩] 28)).alloc (.cells #[.int .u8 (97 + y)] 5)).drew.heap[wr.heap.size + 1]? = some (.cells #[.int .u8 (97 + y)] 5) from (two_new wr (.cells #[.int .i64 0, .int .i64 0, .int .i64 0, .int .i64 0, .int .i64 0, .int .i64 0, .int .i64 0, .string ⟨#[]⟩, .string ⟨#[]⟩] 28) (.cells #[.int .u8 (97 + y)] 5)).2)
            refine hK.out _ _ ((row_cell (Kd.C_below HR.out HA.out.below) HY.out.1 HY.out.2.1 HROW.out)) (fun hHeld => ?_)
            clear hK K
            refine norm_ (a' := ?_) ?_ ?_
            rotate_left
            · show Act.put _ (some 64) _ = _
              simp only [Act.put, List.setIfInBounds_toArray, List.set_cons_zero, List.set_cons_succ, i64_w, i32_w]
              rfl
            refine two_ (i := 14) (j := 19) (Ni := some 60) (Nj := some 65) #[true, true, true, true, true, true, true, true, true, true, true, true, true, true, true, true, true, true, true, false, false, true, false] #[true, true, true, true, true, true, true, true, true, true, true, true, true, true, false, true, true, true, true, true, false, true, false] rfl rfl rfl rfl (two_of HT_.out (by kernel_rfl)) (by decide) (by decide) (fun K hK => ?_) (fun K hK => ?_)
            · skip
              refine goes_ Tryd.func13 (by kernel_rfl) rfl #[.int .i64 1, .int .i64 1] (by rfl) rfl rfl (by simp only [List.map_toArray, List.map_cons, List.map_nil]; rfl) ?_
              with_reducible refine (samphirelaw11_at.calls _ _ _ _ _ rfl).mono ?_
              rintro e w5 ⟨rfl, hb⟩
              refine ⟨_, rfl, ?_⟩
              replace HA := Aside0.mk (HA.out.under hb)
              replace HN := Aside0.mk (blk_below HN.out hb)
              replace HV := Aside0.mk (blk_below HV.out hb)
              replace HS := Aside0.mk (blk_below HS.out hb)
              replace HX := Aside0.mk (blk_below HX.out hb)
              clear hb
              refine hK.out _ _ ((row_cell (Kd.C_below HR.out HA.out.below) HY.out.1 HY.out.2.1 HROW.out)) (fun hHeld => ?_)
              clear hK K
              refine norm_ (a' := ?_) ?_ ?_
              rotate_left
              · show Act.put _ (some 60) _ = _
                simp only [Act.put, List.setIfInBounds_toArray, List.set_cons_zero, List.set_cons_succ, i64_w, i32_w]
                rfl
              refine one_ (i := 19) (N := some 65) #[true, true, true, true, true, true, true, true, true, true, true, true, true, true, true, true, true, true, true, true, false, true, false] rfl rfl (one_of HT_.out (by kernel_rfl)) (by decide) (fun K hK => ?_)
              have hcv := conv_one HS.out
              refine value_ (w1 := ?_) (v := ?_) (by rfl) rfl ?_ ?_
              rotate_left 2
              · go_simp
                constructor
                · rfl
                · rfl
              clear hcv
              refine hK.out _ _ ((row_cell (Kd.C_below HR.out HA.out.below) HY.out.1 HY.out.2.1 HROW.out)) (fun hHeld => ?_)
              clear hK K
              refine norm_ (a' := ?_) ?_ ?_
              rotate_left
              · show Act.put _ (some 65) _ = _
                simp only [Act.put, List.setIfInBounds_toArray, List.set_cons_zero, List.set_cons_succ, i64_w, i32_w]
                rfl
              refine pure_ (i := 20) (N := some 66) (v := ?_) (a' := ?_) #[true, true, true, true, true, true, true, true, true, true, true, true, true, true, true, true, true, true, true, true, true, true, false] rfl rfl (any_of HT_.out (by kernel_rfl)) (fun _ _ _ h => h) (Or.inl ⟨by rfl, ?_⟩) ?_ ?_
              rotate_left
              · intro w'
                go_simp
                with_reducible rfl
              rotate_left
              · simp only [Act.put, List.setIfInBounds_toArray, List.set_cons_zero, List.set_cons_succ, i64_w, i32_w]
                rfl
              exact norm_ (by simp only [putAll, Act.put, List.setIfInBounds_toArray, List.set_cons_zero, List.set_cons_succ]) (hCont (wr.heap.size + 1, wr.heap.size) _ ⟨(row_cell (Kd.C_below HR.out HA.out.below) HY.out.1 HY.out.2.1 HROW.out), HA.out, HN.out, HV.out, HX.out, HFX.out⟩)
            · skip
              have hcv := conv_one HS.out
              refine value_ (w1 := ?_) (v := ?_) (by rfl) rfl ?_ ?_
              rotate_left 2
              · go_simp
                constructor
                · rfl
                · rfl
              clear hcv
              refine hK.out _ _ ((row_cell (Kd.C_below HR.out HA.out.below) HY.out.1 HY.out.2.1 HROW.out)) (fun hHeld => ?_)
              clear hK K
              refine norm_ (a' := ?_) ?_ ?_
              rotate_left
              · show Act.put _ (some 65) _ = _
                simp only [Act.put, List.setIfInBounds_toArray, List.set_cons_zero, List.set_cons_succ, i64_w, i32_w]
                rfl
              refine one_ (i := 14) (N := some 60) #[true, true, true, true, true, true, true, true, true, true, true, true, true, true, true, true, true, true, true, true, false, true, false] rfl rfl (one_of HT_.out (by kernel_rfl)) (by decide) (fun K hK => ?_)
              refine goes_ Tryd.func13 (by kernel_rfl) rfl #[.int .i64 1, .int .i64 1] (by rfl) rfl rfl (by simp only [List.map_toArray, List.map_cons, List.map_nil]; rfl) ?_
              with_reducible refine (samphirelaw11_at.calls _ _ _ _ _ rfl).mono ?_
              rintro e w5 ⟨rfl, hb⟩
              refine ⟨_, rfl, ?_⟩
              replace HA := Aside0.mk (HA.out.under hb)
              replace HN := Aside0.mk (blk_below HN.out hb)
              replace HV := Aside0.mk (blk_below HV.out hb)
              replace HS := Aside0.mk (blk_below HS.out hb)
              replace HX := Aside0.mk (blk_below HX.out hb)
              clear hb
              refine hK.out _ _ ((row_cell (Kd.C_below HR.out HA.out.below) HY.out.1 HY.out.2.1 HROW.out)) (fun hHeld => ?_)
              clear hK K
              refine norm_ (a' := ?_) ?_ ?_
              rotate_left
              · show Act.put _ (some 60) _ = _
                simp only [Act.put, List.setIfInBounds_toArray, List.set_cons_zero, List.set_cons_succ, i64_w, i32_w]
                rfl
              refine pure_ (i := 20) (N := some 66) (v := ?_) (a' := ?_) #[true, true, true, true, true, true, true, true, true, true, true, true, true, true, true, true, true, true, true, true, true, true, false] rfl rfl (any_of HT_.out (by kernel_rfl)) (fun _ _ _ h => h) (Or.inl ⟨by rfl, ?_⟩) ?_ ?_
              rotate_left
              · intro w'
                go_simp
                with_reducible rfl
              rotate_left
              · simp only [Act.put, List.setIfInBounds_toArray, List.set_cons_zero, List.set_cons_succ, i64_w, i32_w]
                rfl
              exact norm_ (by simp only [putAll, Act.put, List.setIfInBounds_toArray, List.set_cons_zero, List.set_cons_succ]) (hCont (wr.heap.size + 1, wr.heap.size) _ ⟨(row_cell (Kd.C_below HR.out HA.out.below) HY.out.1 HY.out.2.1 HROW.out), HA.out, HN.out, HV.out, HX.out, HFX.out⟩)
      clear HA HN HV hHeld
      rintro ⟨bs, bx⟩ w' ⟨h0, h1, h2, h3, h4, h5⟩
      dsimp only at h4 h5
      dsimp only
      have HA := Aside0.mk h1
      have HN := Aside0.mk h2
      have HV := Aside0.mk h3
      have HX := Aside0.mk h4
      have HFX := Aside0.mk h5
      have hHeld : w'.cell? (ad.add y.toNat) = some (.int .i64 z) := h0
      clear h0 h1 h2 h3 h4 h5
      obtain ⟨u0, u1, u2, u3, u4, u5, u6, u7, u8, u9, u10, u11, u12, u13, u14, u15, u16, u17⟩ := Z9 HX.out
      refine norm_ (a' := ?_) ?_ ?_
      rotate_left
      · simp only [putAll, Act.put, List.setIfInBounds_toArray, List.set_cons_zero, List.set_cons_succ]
        rfl
      refine last_ (i := 22) (N := none) #[true, true, true, true, true, true, true, true, true, true, true, true, true, true, true, true, true, true, true, true, true, true, true] rfl rfl (one_of HT_.out (by kernel_rfl)) (by decide) (fun K hK => ?_)
      refine skip_ (w1 := ?_) (by rfl) rfl ?_ ?_
      rotate_left
      · go_simp
        rfl
      refine hK.out _ _ ?_
      clear hK K
      refine done_ (done_of HT_.out (by kernel_rfl)) ?_

      clear u0 u1 u2 u3 u4 u5 u6 u7 u8 u9 u10 u11 u12 u13 u14 u15 u16 u17 hHeld p0 ez1 ez2 ez3 ez4 ey1 ey2 hc1 hc2
      replace HA := Aside0.mk (HA.out.store HFX.out 0 (.int .i64 3))
      replace HN := Aside0.mk (far_cell HN.out HFX.out.2.1.symm 0 (.int .i64 3))
      replace HV := Aside0.mk (far_cell HV.out HFX.out.2.2.1.symm 0 (.int .i64 3))
      replace HX := Aside0.mk (blk_put HX.out 0 (.int .i64 3) (show (#[.int .i64 0, .int .i64 0, .int .i64 0, .int .i64 0, .int .i64 0, .int .i64 0, .int .i64 0, .string ⟨#[]⟩, .string ⟨#[]⟩] : Array Value).setIfInBounds 0 (.int .i64 3) = #[.int .i64 3, .int .i64 0, .int .i64 0, .int .i64 0, .int .i64 0, .int .i64 0, .int .i64 0, .string ⟨#[]⟩, .string ⟨#[]⟩] from rfl))
      generalize w'.setCell ⟨bx, 0, none⟩ (.int .i64 3) = w3_1 at HA HN HV HX ⊢
      replace HA := Aside0.mk (HA.out.store HFX.out 1 (.int .i64 tt))
      replace HN := Aside0.mk (far_cell HN.out HFX.out.2.1.symm 1 (.int .i64 tt))
      replace HV := Aside0.mk (far_cell HV.out HFX.out.2.2.1.symm 1 (.int .i64 tt))
      replace HX := Aside0.mk (blk_put HX.out 1 (.int .i64 tt) (show (#[.int .i64 3, .int .i64 0, .int .i64 0, .int .i64 0, .int .i64 0, .int .i64 0, .int .i64 0, .string ⟨#[]⟩, .string ⟨#[]⟩] : Array Value).setIfInBounds 1 (.int .i64 tt) = #[.int .i64 3, .int .i64 tt, .int .i64 0, .int .i64 0, .int .i64 0, .int .i64 0, .int .i64 0, .string ⟨#[]⟩, .string ⟨#[]⟩] from rfl))
      generalize w3_1.setCell ⟨bx, 1, none⟩ (.int .i64 tt) = w3_2 at HA HN HV HX ⊢
      replace HA := Aside0.mk (HA.out.store HFX.out 2 (.int .i64 ww))
      replace HN := Aside0.mk (far_cell HN.out HFX.out.2.1.symm 2 (.int .i64 ww))
      replace HV := Aside0.mk (far_cell HV.out HFX.out.2.2.1.symm 2 (.int .i64 ww))
      replace HX := Aside0.mk (blk_put HX.out 2 (.int .i64 ww) (show (#[.int .i64 3, .int .i64 tt, .int .i64 0, .int .i64 0, .int .i64 0, .int .i64 0, .int .i64 0, .string ⟨#[]⟩, .string ⟨#[]⟩] : Array Value).setIfInBounds 2 (.int .i64 ww) = #[.int .i64 3, .int .i64 tt, .int .i64 ww, .int .i64 0, .int .i64 0, .int .i64 0, .int .i64 0, .string ⟨#[]⟩, .string ⟨#[]⟩] from rfl))
      generalize w3_2.setCell ⟨bx, 2, none⟩ (.int .i64 ww) = w3_3 at HA HN HV HX ⊢
      replace HA := Aside0.mk (HA.out.store HFX.out 3 (.int .i64 1))
      replace HN := Aside0.mk (far_cell HN.out HFX.out.2.1.symm 3 (.int .i64 1))
      replace HV := Aside0.mk (far_cell HV.out HFX.out.2.2.1.symm 3 (.int .i64 1))
      replace HX := Aside0.mk (blk_put HX.out 3 (.int .i64 1) (show (#[.int .i64 3, .int .i64 tt, .int .i64 ww, .int .i64 0, .int .i64 0, .int .i64 0, .int .i64 0, .string ⟨#[]⟩, .string ⟨#[]⟩] : Array Value).setIfInBounds 3 (.int .i64 1) = #[.int .i64 3, .int .i64 tt, .int .i64 ww, .int .i64 1, .int .i64 0, .int .i64 0, .int .i64 0, .string ⟨#[]⟩, .string ⟨#[]⟩] from rfl))
      generalize w3_3.setCell ⟨bx, 3, none⟩ (.int .i64 1) = w3_4 at HA HN HV HX ⊢
      replace HA := Aside0.mk (HA.out.store HFX.out 4 (.int .i64 1))
      replace HN := Aside0.mk (far_cell HN.out HFX.out.2.1.symm 4 (.int .i64 1))
      replace HV := Aside0.mk (far_cell HV.out HFX.out.2.2.1.symm 4 (.int .i64 1))
      replace HX := Aside0.mk (blk_put HX.out 4 (.int .i64 1) (show (#[.int .i64 3, .int .i64 tt, .int .i64 ww, .int .i64 1, .int .i64 0, .int .i64 0, .int .i64 0, .string ⟨#[]⟩, .string ⟨#[]⟩] : Array Value).setIfInBounds 4 (.int .i64 1) = #[.int .i64 3, .int .i64 tt, .int .i64 ww, .int .i64 1, .int .i64 1, .int .i64 0, .int .i64 0, .string ⟨#[]⟩, .string ⟨#[]⟩] from rfl))
      generalize w3_4.setCell ⟨bx, 4, none⟩ (.int .i64 1) = w3_5 at HA HN HV HX ⊢
      replace HA := Aside0.mk (HA.out.store HFX.out 5 (.int .i64 0))
      replace HN := Aside0.mk (far_cell HN.out HFX.out.2.1.symm 5 (.int .i64 0))
      replace HV := Aside0.mk (far_cell HV.out HFX.out.2.2.1.symm 5 (.int .i64 0))
      replace HX := Aside0.mk (blk_put HX.out 5 (.int .i64 0) (show (#[.int .i64 3, .int .i64 tt, .int .i64 ww, .int .i64 1, .int .i64 1, .int .i64 0, .int .i64 0, .string ⟨#[]⟩, .string ⟨#[]⟩] : Array Value).setIfInBounds 5 (.int .i64 0) = #[.int .i64 3, .int .i64 tt, .int .i64 ww, .int .i64 1, .int .i64 1, .int .i64 0, .int .i64 0, .string ⟨#[]⟩, .string ⟨#[]⟩] from rfl))
      generalize w3_5.setCell ⟨bx, 5, none⟩ (.int .i64 0) = w3_6 at HA HN HV HX ⊢
      replace HA := Aside0.mk (HA.out.store HFX.out 6 (.int .i64 0))
      replace HN := Aside0.mk (far_cell HN.out HFX.out.2.1.symm 6 (.int .i64 0))
      replace HV := Aside0.mk (far_cell HV.out HFX.out.2.2.1.symm 6 (.int .i64 0))
      replace HX := Aside0.mk (blk_put HX.out 6 (.int .i64 0) (show (#[.int .i64 3, .int .i64 tt, .int .i64 ww, .int .i64 1, .int .i64 1, .int .i64 0, .int .i64 0, .string ⟨#[]⟩, .string ⟨#[]⟩] : Array Value).setIfInBounds 6 (.int .i64 0) = #[.int .i64 3, .int .i64 tt, .int .i64 ww, .int .i64 1, .int .i64 1, .int .i64 0, .int .i64 0, .string ⟨#[]⟩, .string ⟨#[]⟩] from rfl))
      generalize w3_6.setCell ⟨bx, 6, none⟩ (.int .i64 0) = w3_7 at HA HN HV HX ⊢
      replace HA := Aside0.mk (HA.out.store HFX.out 7 (.string (strOfNums [97 + y])))
      replace HN := Aside0.mk (far_cell HN.out HFX.out.2.1.symm 7 (.string (strOfNums [97 + y])))
      replace HV := Aside0.mk (far_cell HV.out HFX.out.2.2.1.symm 7 (.string (strOfNums [97 + y])))
      replace HX := Aside0.mk (blk_put HX.out 7 (.string (strOfNums [97 + y])) (show (#[.int .i64 3, .int .i64 tt, .int .i64 ww, .int .i64 1, .int .i64 1, .int .i64 0, .int .i64 0, .string ⟨#[]⟩, .string ⟨#[]⟩] : Array Value).setIfInBounds 7 (.string (strOfNums [97 + y])) = #[.int .i64 3, .int .i64 tt, .int .i64 ww, .int .i64 1, .int .i64 1, .int .i64 0, .int .i64 0, .string (strOfNums [97 + y]), .string ⟨#[]⟩] from rfl))
      generalize w3_7.setCell ⟨bx, 7, none⟩ (.string (strOfNums [97 + y])) = w3_8 at HA HN HV HX ⊢
      replace HA := Aside0.mk (HA.out.store HFX.out 8 (.string ⟨#[]⟩))
      replace HN := Aside0.mk (far_cell HN.out HFX.out.2.1.symm 8 (.string ⟨#[]⟩))
      replace HV := Aside0.mk (far_cell HV.out HFX.out.2.2.1.symm 8 (.string ⟨#[]⟩))
      replace HX := Aside0.mk (blk_put HX.out 8 (.string ⟨#[]⟩) (show (#[.int .i64 3, .int .i64 tt, .int .i64 ww, .int .i64 1, .int .i64 1, .int .i64 0, .int .i64 0, .string (strOfNums [97 + y]), .string ⟨#[]⟩] : Array Value).setIfInBounds 8 (.string ⟨#[]⟩) = #[.int .i64 3, .int .i64 tt, .int .i64 ww, .int .i64 1, .int .i64 1, .int .i64 0, .int .i64 0, .string (strOfNums [97 + y]), .string ⟨#[]⟩] from rfl))
      generalize w3_8.setCell ⟨bx, 8, none⟩ (.string ⟨#[]⟩) = w3 at HA HN HV HX ⊢
      have hct := last_text HY.out.1 HY.out.2.2
      generalize strOfNums [97 + y] = nm at hct HX ⊢
      have HCT := Aside0.mk hct
      clear hct
      obtain ⟨q, hq⟩ : ∃ q, bits .and .i64 (kinds / 2 ^ min y.toNat 64) 1 = q := ⟨_, rfl⟩
      obtain ⟨u0, u1, u2, u3, u4, u5, u6, u7, u8, u9, u10, u11, u12, u13, u14, u15, u16, u17⟩ := Z9 HX.out
      by_cases hq1 : q = 1
      · subst hq1
        go_upto_region 13 with fail
        clear hq u0 u1 u2 u3 u4 u5 u6 u7 u8 u9 u10 u11 u12 u13 u14 u15 u16 u17
        replace HA := Aside0.mk (HA.out.store HFX.out 0 (.int .i64 4))
        replace HN := Aside0.mk (far_cell HN.out HFX.out.2.1.symm 0 (.int .i64 4))
        replace HV := Aside0.mk (far_cell HV.out HFX.out.2.2.1.symm 0 (.int .i64 4))
        replace HX := Aside0.mk (blk_put HX.out 0 (.int .i64 4) (show (#[.int .i64 3, .int .i64 tt, .int .i64 ww, .int .i64 1, .int .i64 1, .int .i64 0, .int .i64 0, .string nm, .string ⟨#[]⟩] : Array Value).setIfInBounds 0 (.int .i64 4) = #[.int .i64 4, .int .i64 tt, .int .i64 ww, .int .i64 1, .int .i64 1, .int .i64 0, .int .i64 0, .string nm, .string ⟨#[]⟩] from rfl))
        generalize w3.setCell ⟨bx, 0, none⟩ (.int .i64 4) = w4_1 at HA HN HV HX ⊢
        replace HA := Aside0.mk (HA.out.store HFX.out 7 (.string ⟨#[]⟩))
        replace HN := Aside0.mk (far_cell HN.out HFX.out.2.1.symm 7 (.string ⟨#[]⟩))
        replace HV := Aside0.mk (far_cell HV.out HFX.out.2.2.1.symm 7 (.string ⟨#[]⟩))
        replace HX := Aside0.mk (blk_put HX.out 7 (.string ⟨#[]⟩) (show (#[.int .i64 4, .int .i64 tt, .int .i64 ww, .int .i64 1, .int .i64 1, .int .i64 0, .int .i64 0, .string nm, .string ⟨#[]⟩] : Array Value).setIfInBounds 7 (.string ⟨#[]⟩) = #[.int .i64 4, .int .i64 tt, .int .i64 ww, .int .i64 1, .int .i64 1, .int .i64 0, .int .i64 0, .string ⟨#[]⟩, .string ⟨#[]⟩] from rfl))
        generalize w4_1.setCell ⟨bx, 7, none⟩ (.string ⟨#[]⟩) = w4_2 at HA HN HV HX ⊢
        replace HA := Aside0.mk (HA.out.store HFX.out 8 (.string nm))
        replace HN := Aside0.mk (far_cell HN.out HFX.out.2.1.symm 8 (.string nm))
        replace HV := Aside0.mk (far_cell HV.out HFX.out.2.2.1.symm 8 (.string nm))
        replace HX := Aside0.mk (blk_put HX.out 8 (.string nm) (show (#[.int .i64 4, .int .i64 tt, .int .i64 ww, .int .i64 1, .int .i64 1, .int .i64 0, .int .i64 0, .string ⟨#[]⟩, .string ⟨#[]⟩] : Array Value).setIfInBounds 8 (.string nm) = #[.int .i64 4, .int .i64 tt, .int .i64 ww, .int .i64 1, .int .i64 1, .int .i64 0, .int .i64 0, .string ⟨#[]⟩, .string nm] from rfl))
        generalize w4_2.setCell ⟨bx, 8, none⟩ (.string nm) = w4 at HA HN HV HX ⊢
        have HO := Aside0.mk (last_nv4 nm tt ww HTW.out)
        have HCK := Aside0.mk ((HCT.out ⟨tt, ww⟩ (last_fine HTW.out)).2)
        have HI24 := Aside0.mk (last_le H1.out HN24.out)
        obtain ⟨m0, hm0⟩ : ∃ m, T.ops.length = m := ⟨_, rfl⟩
        have HMZ := Aside0.mk hm0
        have HM0 := Aside0.mk (last_len HA.out.last HI24.out)
        have HLAST := Aside0.mk HA.out.last
        have HFN := Aside0.mk (show bx ≠ xn ∧ bx ≠ xv from ⟨HFX.out.2.1, HFX.out.2.2.1⟩)
        go_upto_region 14 with (go_at_call 17; refine (Ops_calls _ _ g f n v T HA.out.tree (Nat.le_trans HM0.out (by decide))).mono ?_; rintro e w1 ⟨v_, rfl, ho, hb⟩; replace HA := Aside0.mk (HA.out.under hb); replace HN := Aside0.mk (blk_below HN.out hb); replace HV := Aside0.mk (blk_below HV.out hb); replace HX := Aside0.mk (blk_below HX.out hb); obtain ⟨S0, d0, rfl, hc1, hC1⟩ := Kd.R_reads ho; clear ho hb hC1 hc1)
        clear hm0
        obtain ⟨u0, u1, u2, u3, u4, u5, u6, u7, u8, u9, u10, u11, u12, u13, u14, u15, u16, u17⟩ := Z9 HX.out
        cases hin : isIn L (⟨tt, ww⟩ : Stp)
        · have HIN := Aside0.mk hin
          have HPUT := Aside0.mk (show putO T (⟨4, ⟨tt, ww⟩, ⟨1, 1⟩, ⟨0, 0⟩, ⟨#[]⟩, nm⟩ : Opn) 0 = (crO :: insO L (⟨4, ⟨tt, ww⟩, ⟨1, 1⟩, ⟨0, 0⟩, ⟨#[]⟩, nm⟩ : Opn), 0) by rw [HA.out.last.put HI24.out.1 HO.out, show isIn L ((⟨4, ⟨tt, ww⟩, ⟨1, 1⟩, ⟨0, 0⟩, ⟨#[]⟩, nm⟩ : Opn)).f1 = false from hin]; rfl)
          clear hin
          have HNW := HN
          have HVW := HV
          go_upto_region 16 with (go_at_call 14; refine (Apply_calls _ _ g f n _ _ (⟨4, ⟨tt, ww⟩, ⟨1, 1⟩, ⟨0, 0⟩, ⟨#[]⟩, nm⟩ : Opn) 40 0 HA.out.tree HA.out.last.good HCK.out (fun _ => last_ok4) (HL.out.below HA.out.below)).mono ?_; rintro e w' ⟨T', v', rfl, ht, hg, h1, h2, h3, h4, h5⟩; rw [HPUT.out]; have HA' := Aside0.mk (HA.out.new HI24.out.1 HO.out HIN.out ht hg h1 h2 h3 h4); replace HN := Aside0.mk (h4.blk HN.out HXN.out.1); replace HV := Aside0.mk (h4.blk HV.out HXN.out.2); replace HX := Aside0.mk (h4.blk HX.out HFX.out.1); have HXN' := Aside0.mk (last_feet HXN.out HNW.out HVW.out h5); clear ht hg h1 h2 h3 h4 h5)
          clear u0 u1 u2 u3 u4 u5 u6 u7 u8 u9 u10 u11 u12 u13 u14 u15 u16 u17 HNW HVW HPUT HFX HXN
          replace HXN := HXN'
          have HML := Aside0.mk HA'.out.2
          replace HA := Aside0.mk HA'.out.1
          clear HA' HXN'
          obtain ⟨m1, hm1⟩ : ∃ m, T'.ops.length = m := ⟨_, rfl⟩
          have HM1 := Aside0.mk (show T'.ops.length ≤ 1000000 by have := HML.out; have := HM0.out; omega)
          obtain ⟨dm1, dm2, dm3⟩ := last_ne HML.out hm1 HMZ.out
          go_upto_region 17 with (go_at_call 17; refine (Ops_calls _ _ g f n v' T' HA.out.tree HM1.out).mono ?_; rintro e w1 ⟨v_, rfl, ho, hb⟩; replace HA := Aside0.mk (HA.out.under hb); replace HN := Aside0.mk (blk_below HN.out hb); replace HV := Aside0.mk (blk_below HV.out hb); replace HX := Aside0.mk (blk_below HX.out hb); obtain ⟨S0, d0, rfl, hc1, hC1⟩ := Kd.R_reads ho; clear ho hb hC1 hc1)
          clear hm1 dm1 dm2 dm3
          obtain ⟨u0, u1, u2, u3, u4, u5, u6, u7, u8, u9, u10, u11, u12, u13, u14, u15, u16, u17⟩ := Z9 HX.out
          obtain ⟨t0, t1, t2, t3, t4, t5, t6, t7, t8, t9, t10, t11⟩ := Z6 HV.out
          cases hls : lessB (valL L).1 ⟨tt, ww⟩
          · have HLS := Aside0.mk (show samphireref10_Less.f (valL L).1.f0 (valL L).1.f1 tt ww = some false by rw [← hls]; exact ref10_less _ ⟨tt, ww⟩)
            have HE1 := Aside0.mk (show valL (insO L (⟨4, ⟨tt, ww⟩, ⟨1, 1⟩, ⟨0, 0⟩, ⟨#[]⟩, nm⟩ : Opn)) = valL L from (val_ins HLAST.out HO.out HIN.out).trans (if_neg (show ¬ (true && lessB (valL L).1 ⟨tt, ww⟩) = true by rw [hls]; decide)))
            have HE2 := Aside0.mk (show nameL (insO L (⟨4, ⟨tt, ww⟩, ⟨1, 1⟩, ⟨0, 0⟩, ⟨#[]⟩, nm⟩ : Opn)) = nameL L from (name_ins HLAST.out HO.out HIN.out).trans (if_neg (show ¬ (false && lessB (nameL L).1 ⟨tt, ww⟩) = true by simp)))
            clear hls
            go_upto_region 8 with (go_at_call 18; refine (samphireref10_Less.calls _ _ _ _ _ _ HLS.out).mono ?_; rintro e w1 ⟨rfl, hb⟩; replace HA := Aside0.mk (HA.out.under hb); replace HN := Aside0.mk (blk_below HN.out hb); replace HV := Aside0.mk (blk_below HV.out hb); replace HX := Aside0.mk (blk_below HX.out hb); clear hb; obtain ⟨u0, u1, u2, u3, u4, u5, u6, u7, u8, u9, u10, u11, u12, u13, u14, u15, u16, u17⟩ := Z9 HX.out; obtain ⟨t0, t1, t2, t3, t4, t5, t6, t7, t8, t9, t10, t11⟩ := Z6 HV.out)
            go_wp2
            have HNE_ := Aside0.mk (show w1.heap[xn]? = some (.cells #[.int .i64 (nameL (insO L (⟨4, ⟨tt, ww⟩, ⟨1, 1⟩, ⟨0, 0⟩, ⟨#[]⟩, nm⟩ : Opn))).1.f0, .int .i64 (nameL (insO L (⟨4, ⟨tt, ww⟩, ⟨1, 1⟩, ⟨0, 0⟩, ⟨#[]⟩, nm⟩ : Opn))).1.f1, .int .i64 0, .int .i64 0, .string (nameL (insO L (⟨4, ⟨tt, ww⟩, ⟨1, 1⟩, ⟨0, 0⟩, ⟨#[]⟩, nm⟩ : Opn))).2, .string ⟨#[]⟩] 36 (0, 0)) by rw [HE2.out]; exact HN.out)
            have HVE_ := Aside0.mk (show w1.heap[xv]? = some (.cells #[.int .i64 (valL (insO L (⟨4, ⟨tt, ww⟩, ⟨1, 1⟩, ⟨0, 0⟩, ⟨#[]⟩, nm⟩ : Opn))).1.f0, .int .i64 (valL (insO L (⟨4, ⟨tt, ww⟩, ⟨1, 1⟩, ⟨0, 0⟩, ⟨#[]⟩, nm⟩ : Opn))).1.f1, .int .i64 0, .int .i64 0, .string ⟨#[]⟩, .string (valL (insO L (⟨4, ⟨tt, ww⟩, ⟨1, 1⟩, ⟨0, 0⟩, ⟨#[]⟩, nm⟩ : Opn))).2] 36 (0, 0)) by rw [HE1.out]; exact HV.out)
            go_roundg k1
            case measure => exact Nat.lt_succ_self _
            case rel => exact ⟨i + 1, _, v', T', ⟨last_k HK.out H1.out⟩, (by first | rfl | (rw [hwi]; rfl)), HA, HNE_, HVE_, HXN⟩
          · have HLS := Aside0.mk (show samphireref10_Less.f (valL L).1.f0 (valL L).1.f1 tt ww = some true by rw [← hls]; exact ref10_less _ ⟨tt, ww⟩)
            have HE1 := Aside0.mk (show valL (insO L (⟨4, ⟨tt, ww⟩, ⟨1, 1⟩, ⟨0, 0⟩, ⟨#[]⟩, nm⟩ : Opn)) = (⟨tt, ww⟩, nm) from (val_ins HLAST.out HO.out HIN.out).trans (if_pos (show (true && lessB (valL L).1 ⟨tt, ww⟩) = true by rw [hls]; rfl)))
            have HE2 := Aside0.mk (show nameL (insO L (⟨4, ⟨tt, ww⟩, ⟨1, 1⟩, ⟨0, 0⟩, ⟨#[]⟩, nm⟩ : Opn)) = nameL L from (name_ins HLAST.out HO.out HIN.out).trans (if_neg (show ¬ (false && lessB (nameL L).1 ⟨tt, ww⟩) = true by simp)))
            clear hls
            go_upto_region 20 with (go_at_call 18; refine (samphireref10_Less.calls _ _ _ _ _ _ HLS.out).mono ?_; rintro e w1 ⟨rfl, hb⟩; replace HA := Aside0.mk (HA.out.under hb); replace HN := Aside0.mk (blk_below HN.out hb); replace HV := Aside0.mk (blk_below HV.out hb); replace HX := Aside0.mk (blk_below HX.out hb); clear hb; obtain ⟨u0, u1, u2, u3, u4, u5, u6, u7, u8, u9, u10, u11, u12, u13, u14, u15, u16, u17⟩ := Z9 HX.out; obtain ⟨t0, t1, t2, t3, t4, t5, t6, t7, t8, t9, t10, t11⟩ := Z6 HV.out)
            go_upto_region 8 with fail
            clear u0 u1 u2 u3 u4 u5 u6 u7 u8 u9 u10 u11 u12 u13 u14 u15 u16 u17 t0 t1 t2 t3 t4 t5 t6 t7 t8 t9 t10 t11
            replace HA := Aside0.mk (HA.out.cell HXN.out.2 HBN.out.2 0 (.int .i64 tt))
            replace HN := Aside0.mk (far_cell HN.out HNE.out 0 (.int .i64 tt))
            replace HX := Aside0.mk (far_cell HX.out HFN.out.2 0 (.int .i64 tt))
            replace HV := Aside0.mk (blk_put HV.out 0 (.int .i64 tt) (show (#[.int .i64 (valL L).1.f0, .int .i64 (valL L).1.f1, .int .i64 0, .int .i64 0, .string ⟨#[]⟩, .string (valL L).2] : Array Value).setIfInBounds 0 (.int .i64 tt) = #[.int .i64 tt, .int .i64 (valL L).1.f1, .int .i64 0, .int .i64 0, .string ⟨#[]⟩, .string (valL L).2] from rfl))
            generalize w1.setCell ⟨xv, 0, none⟩ (.int .i64 tt) = w7_1 at HA HN HV HX ⊢
            replace HA := Aside0.mk (HA.out.cell HXN.out.2 HBN.out.2 1 (.int .i64 ww))
            replace HN := Aside0.mk (far_cell HN.out HNE.out 1 (.int .i64 ww))
            replace HX := Aside0.mk (far_cell HX.out HFN.out.2 1 (.int .i64 ww))
            replace HV := Aside0.mk (blk_put HV.out 1 (.int .i64 ww) (show (#[.int .i64 tt, .int .i64 (valL L).1.f1, .int .i64 0, .int .i64 0, .string ⟨#[]⟩, .string (valL L).2] : Array Value).setIfInBounds 1 (.int .i64 ww) = #[.int .i64 tt, .int .i64 ww, .int .i64 0, .int .i64 0, .string ⟨#[]⟩, .string (valL L).2] from rfl))
            generalize w7_1.setCell ⟨xv, 1, none⟩ (.int .i64 ww) = w7_2 at HA HN HV HX ⊢
            replace HA := Aside0.mk (HA.out.cell HXN.out.2 HBN.out.2 2 (.int .i64 0))
            replace HN := Aside0.mk (far_cell HN.out HNE.out 2 (.int .i64 0))
            replace HX := Aside0.mk (far_cell HX.out HFN.out.2 2 (.int .i64 0))
            replace HV := Aside0.mk (blk_put HV.out 2 (.int .i64 0) (show (#[.int .i64 tt, .int .i64 ww, .int .i64 0, .int .i64 0, .string ⟨#[]⟩, .string (valL L).2] : Array Value).setIfInBounds 2 (.int .i64 0) = #[.int .i64 tt, .int .i64 ww, .int .i64 0, .int .i64 0, .string ⟨#[]⟩, .string (valL L).2] from rfl))
            generalize w7_2.setCell ⟨xv, 2, none⟩ (.int .i64 0) = w7_3 at HA HN HV HX ⊢
            replace HA := Aside0.mk (HA.out.cell HXN.out.2 HBN.out.2 3 (.int .i64 0))
            replace HN := Aside0.mk (far_cell HN.out HNE.out 3 (.int .i64 0))
            replace HX := Aside0.mk (far_cell HX.out HFN.out.2 3 (.int .i64 0))
            replace HV := Aside0.mk (blk_put HV.out 3 (.int .i64 0) (show (#[.int .i64 tt, .int .i64 ww, .int .i64 0, .int .i64 0, .string ⟨#[]⟩, .string (valL L).2] : Array Value).setIfInBounds 3 (.int .i64 0) = #[.int .i64 tt, .int .i64 ww, .int .i64 0, .int .i64 0, .string ⟨#[]⟩, .string (valL L).2] from rfl))
            generalize w7_3.setCell ⟨xv, 3, none⟩ (.int .i64 0) = w7_4 at HA HN HV HX ⊢
            replace HA := Aside0.mk (HA.out.cell HXN.out.2 HBN.out.2 4 (.string ⟨#[]⟩))
            replace HN := Aside0.mk (far_cell HN.out HNE.out 4 (.string ⟨#[]⟩))
            replace HX := Aside0.mk (far_cell HX.out HFN.out.2 4 (.string ⟨#[]⟩))
            replace HV := Aside0.mk (blk_put HV.out 4 (.string ⟨#[]⟩) (show (#[.int .i64 tt, .int .i64 ww, .int .i64 0, .int .i64 0, .string ⟨#[]⟩, .string (valL L).2] : Array Value).setIfInBounds 4 (.string ⟨#[]⟩) = #[.int .i64 tt, .int .i64 ww, .int .i64 0, .int .i64 0, .string ⟨#[]⟩, .string (valL L).2] from rfl))
            generalize w7_4.setCell ⟨xv, 4, none⟩ (.string ⟨#[]⟩) = w7_5 at HA HN HV HX ⊢
            replace HA := Aside0.mk (HA.out.cell HXN.out.2 HBN.out.2 5 (.string nm))
            replace HN := Aside0.mk (far_cell HN.out HNE.out 5 (.string nm))
            replace HX := Aside0.mk (far_cell HX.out HFN.out.2 5 (.string nm))
            replace HV := Aside0.mk (blk_put HV.out 5 (.string nm) (show (#[.int .i64 tt, .int .i64 ww, .int .i64 0, .int .i64 0, .string ⟨#[]⟩, .string (valL L).2] : Array Value).setIfInBounds 5 (.string nm) = #[.int .i64 tt, .int .i64 ww, .int .i64 0, .int .i64 0, .string ⟨#[]⟩, .string nm] from rfl))
            generalize w7_5.setCell ⟨xv, 5, none⟩ (.string nm) = w7 at HA HN HV HX ⊢
            obtain ⟨u0, u1, u2, u3, u4, u5, u6, u7, u8, u9, u10, u11, u12, u13, u14, u15, u16, u17⟩ := Z9 HX.out
            go_wp2
            have HNE_ := Aside0.mk (show w7.heap[xn]? = some (.cells #[.int .i64 (nameL (insO L (⟨4, ⟨tt, ww⟩, ⟨1, 1⟩, ⟨0, 0⟩, ⟨#[]⟩, nm⟩ : Opn))).1.f0, .int .i64 (nameL (insO L (⟨4, ⟨tt, ww⟩, ⟨1, 1⟩, ⟨0, 0⟩, ⟨#[]⟩, nm⟩ : Opn))).1.f1, .int .i64 0, .int .i64 0, .string (nameL (insO L (⟨4, ⟨tt, ww⟩, ⟨1, 1⟩, ⟨0, 0⟩, ⟨#[]⟩, nm⟩ : Opn))).2, .string ⟨#[]⟩] 36 (0, 0)) by rw [HE2.out]; exact HN.out)
            have HVE_ := Aside0.mk (show w7.heap[xv]? = some (.cells #[.int .i64 (valL (insO L (⟨4, ⟨tt, ww⟩, ⟨1, 1⟩, ⟨0, 0⟩, ⟨#[]⟩, nm⟩ : Opn))).1.f0, .int .i64 (valL (insO L (⟨4, ⟨tt, ww⟩, ⟨1, 1⟩, ⟨0, 0⟩, ⟨#[]⟩, nm⟩ : Opn))).1.f1, .int .i64 0, .int .i64 0, .string ⟨#[]⟩, .string (valL (insO L (⟨4, ⟨tt, ww⟩, ⟨1, 1⟩, ⟨0, 0⟩, ⟨#[]⟩, nm⟩ : Opn))).2] 36 (0, 0)) by rw [HE1.out]; exact HV.out)
            go_roundg k1
            case measure => exact Nat.lt_succ_self _
            case rel => exact ⟨i + 1, _, v', T', ⟨last_k HK.out H1.out⟩, (by first | rfl | (rw [hwi]; rfl)), HA, HNE_, HVE_, HXN⟩
        · have HIN := Aside0.mk hin
          have HPUT := Aside0.mk (show putO T (⟨4, ⟨tt, ww⟩, ⟨1, 1⟩, ⟨0, 0⟩, ⟨#[]⟩, nm⟩ : Opn) 0 = (crO :: L, 0) by rw [HA.out.last.put HI24.out.1 HO.out, show isIn L ((⟨4, ⟨tt, ww⟩, ⟨1, 1⟩, ⟨0, 0⟩, ⟨#[]⟩, nm⟩ : Opn)).f1 = true from hin]; rfl)
          clear hin
          have HNW := HN
          have HVW := HV
          go_upto_region 16 with (go_at_call 14; refine (Apply_calls _ _ g f n _ _ (⟨4, ⟨tt, ww⟩, ⟨1, 1⟩, ⟨0, 0⟩, ⟨#[]⟩, nm⟩ : Opn) 40 0 HA.out.tree HA.out.last.good HCK.out (fun _ => last_ok4) (HL.out.below HA.out.below)).mono ?_; rintro e w' ⟨T', v', rfl, ht, hg, h1, h2, h3, h4, h5⟩; rw [HPUT.out]; have HA' := Aside0.mk (HA.out.same HI24.out.1 HO.out HIN.out ht hg h1 h2 h3 h4); replace HN := Aside0.mk (h4.blk HN.out HXN.out.1); replace HV := Aside0.mk (h4.blk HV.out HXN.out.2); replace HX := Aside0.mk (h4.blk HX.out HFX.out.1); have HXN' := Aside0.mk (last_feet HXN.out HNW.out HVW.out h5); clear ht hg h1 h2 h3 h4 h5)
          clear u0 u1 u2 u3 u4 u5 u6 u7 u8 u9 u10 u11 u12 u13 u14 u15 u16 u17 HNW HVW HPUT HFX HXN
          replace HXN := HXN'
          have HML := Aside0.mk HA'.out.2
          replace HA := Aside0.mk HA'.out.1
          clear HA' HXN'
          obtain ⟨m1, hm1⟩ : ∃ m, T'.ops.length = m := ⟨_, rfl⟩
          have HM1 := Aside0.mk (show T'.ops.length ≤ 1000000 by have := HML.out; have := HM0.out; omega)
          obtain ⟨dm1, dm2, dm3⟩ := last_eq HML.out hm1 HMZ.out
          go_wp2_with (go_at_call 17; refine (Ops_calls _ _ g f n v' T' HA.out.tree HM1.out).mono ?_; rintro e w1 ⟨v_, rfl, ho, hb⟩; replace HA := Aside0.mk (HA.out.under hb); replace HN := Aside0.mk (blk_below HN.out hb); replace HV := Aside0.mk (blk_below HV.out hb); replace HX := Aside0.mk (blk_below HX.out hb); obtain ⟨S0, d0, rfl, hc1, hC1⟩ := Kd.R_reads ho; clear ho hb hC1 hc1)
          go_roundg k1
          case measure => exact Nat.lt_succ_self _
          case rel => exact ⟨i + 1, L, v', T', ⟨last_k HK.out H1.out⟩, (by first | rfl | (rw [hwi]; rfl)), HA, HN, HV, HXN⟩
      · have dq1 : (q == 1) = false := beq_eq_false_iff_ne.2 hq1
        have dq2 : decide (q = 1) = false := decide_eq_false hq1
        have dq3 : (q = 1) = False := eq_false hq1
        go_upto_region 13 with fail
        clear hq hq1 dq1 dq2 dq3 u0 u1 u2 u3 u4 u5 u6 u7 u8 u9 u10 u11 u12 u13 u14 u15 u16 u17
        generalize w3 = w4 at HA HN HV HX ⊢
        have HO := Aside0.mk (last_nv3 nm tt ww HTW.out)
        have HCK := Aside0.mk ((HCT.out ⟨tt, ww⟩ (last_fine HTW.out)).1)
        have HI24 := Aside0.mk (last_le H1.out HN24.out)
        obtain ⟨m0, hm0⟩ : ∃ m, T.ops.length = m := ⟨_, rfl⟩
        have HMZ := Aside0.mk hm0
        have HM0 := Aside0.mk (last_len HA.out.last HI24.out)
        have HLAST := Aside0.mk HA.out.last
        have HFN := Aside0.mk (show bx ≠ xn ∧ bx ≠ xv from ⟨HFX.out.2.1, HFX.out.2.2.1⟩)
        go_upto_region 14 with (go_at_call 17; refine (Ops_calls _ _ g f n v T HA.out.tree (Nat.le_trans HM0.out (by decide))).mono ?_; rintro e w1 ⟨v_, rfl, ho, hb⟩; replace HA := Aside0.mk (HA.out.under hb); replace HN := Aside0.mk (blk_below HN.out hb); replace HV := Aside0.mk (blk_below HV.out hb); replace HX := Aside0.mk (blk_below HX.out hb); obtain ⟨S0, d0, rfl, hc1, hC1⟩ := Kd.R_reads ho; clear ho hb hC1 hc1)
        clear hm0
        obtain ⟨u0, u1, u2, u3, u4, u5, u6, u7, u8, u9, u10, u11, u12, u13, u14, u15, u16, u17⟩ := Z9 HX.out
        cases hin : isIn L (⟨tt, ww⟩ : Stp)
        · have HIN := Aside0.mk hin
          have HPUT := Aside0.mk (show putO T (⟨3, ⟨tt, ww⟩, ⟨1, 1⟩, ⟨0, 0⟩, nm, ⟨#[]⟩⟩ : Opn) 0 = (crO :: insO L (⟨3, ⟨tt, ww⟩, ⟨1, 1⟩, ⟨0, 0⟩, nm, ⟨#[]⟩⟩ : Opn), 0) by rw [HA.out.last.put HI24.out.1 HO.out, show isIn L ((⟨3, ⟨tt, ww⟩, ⟨1, 1⟩, ⟨0, 0⟩, nm, ⟨#[]⟩⟩ : Opn)).f1 = false from hin]; rfl)
          clear hin
          have HNW := HN
          have HVW := HV
          go_upto_region 16 with (go_at_call 14; refine (Apply_calls _ _ g f n _ _ (⟨3, ⟨tt, ww⟩, ⟨1, 1⟩, ⟨0, 0⟩, nm, ⟨#[]⟩⟩ : Opn) 40 0 HA.out.tree HA.out.last.good HCK.out (fun _ => last_ok3) (HL.out.below HA.out.below)).mono ?_; rintro e w' ⟨T', v', rfl, ht, hg, h1, h2, h3, h4, h5⟩; rw [HPUT.out]; have HA' := Aside0.mk (HA.out.new HI24.out.1 HO.out HIN.out ht hg h1 h2 h3 h4); replace HN := Aside0.mk (h4.blk HN.out HXN.out.1); replace HV := Aside0.mk (h4.blk HV.out HXN.out.2); replace HX := Aside0.mk (h4.blk HX.out HFX.out.1); have HXN' := Aside0.mk (last_feet HXN.out HNW.out HVW.out h5); clear ht hg h1 h2 h3 h4 h5)
          clear u0 u1 u2 u3 u4 u5 u6 u7 u8 u9 u10 u11 u12 u13 u14 u15 u16 u17 HNW HVW HPUT HFX HXN
          replace HXN := HXN'
          have HML := Aside0.mk HA'.out.2
          replace HA := Aside0.mk HA'.out.1
          clear HA' HXN'
          obtain ⟨m1, hm1⟩ : ∃ m, T'.ops.length = m := ⟨_, rfl⟩
          have HM1 := Aside0.mk (show T'.ops.length ≤ 1000000 by have := HML.out; have := HM0.out; omega)
          obtain ⟨dm1, dm2, dm3⟩ := last_ne HML.out hm1 HMZ.out
          go_upto_region 17 with (go_at_call 17; refine (Ops_calls _ _ g f n v' T' HA.out.tree HM1.out).mono ?_; rintro e w1 ⟨v_, rfl, ho, hb⟩; replace HA := Aside0.mk (HA.out.under hb); replace HN := Aside0.mk (blk_below HN.out hb); replace HV := Aside0.mk (blk_below HV.out hb); replace HX := Aside0.mk (blk_below HX.out hb); obtain ⟨S0, d0, rfl, hc1, hC1⟩ := Kd.R_reads ho; clear ho hb hC1 hc1)
          clear hm1 dm1 dm2 dm3
          obtain ⟨u0, u1, u2, u3, u4, u5, u6, u7, u8, u9, u10, u11, u12, u13, u14, u15, u16, u17⟩ := Z9 HX.out
          obtain ⟨t0, t1, t2, t3, t4, t5, t6, t7, t8, t9, t10, t11⟩ := Z6 HN.out
          cases hls : lessB (nameL L).1 ⟨tt, ww⟩
          · have HLS := Aside0.mk (show samphireref10_Less.f (nameL L).1.f0 (nameL L).1.f1 tt ww = some false by rw [← hls]; exact ref10_less _ ⟨tt, ww⟩)
            have HE1 := Aside0.mk (show nameL (insO L (⟨3, ⟨tt, ww⟩, ⟨1, 1⟩, ⟨0, 0⟩, nm, ⟨#[]⟩⟩ : Opn)) = nameL L from (name_ins HLAST.out HO.out HIN.out).trans (if_neg (show ¬ (true && lessB (nameL L).1 ⟨tt, ww⟩) = true by rw [hls]; decide)))
            have HE2 := Aside0.mk (show valL (insO L (⟨3, ⟨tt, ww⟩, ⟨1, 1⟩, ⟨0, 0⟩, nm, ⟨#[]⟩⟩ : Opn)) = valL L from (val_ins HLAST.out HO.out HIN.out).trans (if_neg (show ¬ (false && lessB (valL L).1 ⟨tt, ww⟩) = true by simp)))
            clear hls
            go_upto_region 19 with (go_at_call 18; refine (samphireref10_Less.calls _ _ _ _ _ _ HLS.out).mono ?_; rintro e w1 ⟨rfl, hb⟩; replace HA := Aside0.mk (HA.out.under hb); replace HN := Aside0.mk (blk_below HN.out hb); replace HV := Aside0.mk (blk_below HV.out hb); replace HX := Aside0.mk (blk_below HX.out hb); clear hb; obtain ⟨u0, u1, u2, u3, u4, u5, u6, u7, u8, u9, u10, u11, u12, u13, u14, u15, u16, u17⟩ := Z9 HX.out; obtain ⟨t0, t1, t2, t3, t4, t5, t6, t7, t8, t9, t10, t11⟩ := Z6 HN.out)
            go_wp2
            have HNE_ := Aside0.mk (show w1.heap[xn]? = some (.cells #[.int .i64 (nameL (insO L (⟨3, ⟨tt, ww⟩, ⟨1, 1⟩, ⟨0, 0⟩, nm, ⟨#[]⟩⟩ : Opn))).1.f0, .int .i64 (nameL (insO L (⟨3, ⟨tt, ww⟩, ⟨1, 1⟩, ⟨0, 0⟩, nm, ⟨#[]⟩⟩ : Opn))).1.f1, .int .i64 0, .int .i64 0, .string (nameL (insO L (⟨3, ⟨tt, ww⟩, ⟨1, 1⟩, ⟨0, 0⟩, nm, ⟨#[]⟩⟩ : Opn))).2, .string ⟨#[]⟩] 36 (0, 0)) by rw [HE1.out]; exact HN.out)
            have HVE_ := Aside0.mk (show w1.heap[xv]? = some (.cells #[.int .i64 (valL (insO L (⟨3, ⟨tt, ww⟩, ⟨1, 1⟩, ⟨0, 0⟩, nm, ⟨#[]⟩⟩ : Opn))).1.f0, .int .i64 (valL (insO L (⟨3, ⟨tt, ww⟩, ⟨1, 1⟩, ⟨0, 0⟩, nm, ⟨#[]⟩⟩ : Opn))).1.f1, .int .i64 0, .int .i64 0, .string ⟨#[]⟩, .string (valL (insO L (⟨3, ⟨tt, ww⟩, ⟨1, 1⟩, ⟨0, 0⟩, nm, ⟨#[]⟩⟩ : Opn))).2] 36 (0, 0)) by rw [HE2.out]; exact HV.out)
            go_roundg k1
            case measure => exact Nat.lt_succ_self _
            case rel => exact ⟨i + 1, _, v', T', ⟨last_k HK.out H1.out⟩, (by first | rfl | (rw [hwi]; rfl)), HA, HNE_, HVE_, HXN⟩
          · have HLS := Aside0.mk (show samphireref10_Less.f (nameL L).1.f0 (nameL L).1.f1 tt ww = some true by rw [← hls]; exact ref10_less _ ⟨tt, ww⟩)
            have HE1 := Aside0.mk (show nameL (insO L (⟨3, ⟨tt, ww⟩, ⟨1, 1⟩, ⟨0, 0⟩, nm, ⟨#[]⟩⟩ : Opn)) = (⟨tt, ww⟩, nm) from (name_ins HLAST.out HO.out HIN.out).trans (if_pos (show (true && lessB (nameL L).1 ⟨tt, ww⟩) = true by rw [hls]; rfl)))
            have HE2 := Aside0.mk (show valL (insO L (⟨3, ⟨tt, ww⟩, ⟨1, 1⟩, ⟨0, 0⟩, nm, ⟨#[]⟩⟩ : Opn)) = valL L from (val_ins HLAST.out HO.out HIN.out).trans (if_neg (show ¬ (false && lessB (valL L).1 ⟨tt, ww⟩) = true by simp)))
            clear hls
            go_upto_region 18 with (go_at_call 18; refine (samphireref10_Less.calls _ _ _ _ _ _ HLS.out).mono ?_; rintro e w1 ⟨rfl, hb⟩; replace HA := Aside0.mk (HA.out.under hb); replace HN := Aside0.mk (blk_below HN.out hb); replace HV := Aside0.mk (blk_below HV.out hb); replace HX := Aside0.mk (blk_below HX.out hb); clear hb; obtain ⟨u0, u1, u2, u3, u4, u5, u6, u7, u8, u9, u10, u11, u12, u13, u14, u15, u16, u17⟩ := Z9 HX.out; obtain ⟨t0, t1, t2, t3, t4, t5, t6, t7, t8, t9, t10, t11⟩ := Z6 HN.out)
            go_upto_region 19 with fail
            clear u0 u1 u2 u3 u4 u5 u6 u7 u8 u9 u10 u11 u12 u13 u14 u15 u16 u17 t0 t1 t2 t3 t4 t5 t6 t7 t8 t9 t10 t11
            replace HA := Aside0.mk (HA.out.cell HXN.out.1 HBN.out.1 0 (.int .i64 tt))
            replace HV := Aside0.mk (far_cell HV.out HNE.out.symm 0 (.int .i64 tt))
            replace HX := Aside0.mk (far_cell HX.out HFN.out.1 0 (.int .i64 tt))
            replace HN := Aside0.mk (blk_put HN.out 0 (.int .i64 tt) (show (#[.int .i64 (nameL L).1.f0, .int .i64 (nameL L).1.f1, .int .i64 0, .int .i64 0, .string (nameL L).2, .string ⟨#[]⟩] : Array Value).setIfInBounds 0 (.int .i64 tt) = #[.int .i64 tt, .int .i64 (nameL L).1.f1, .int .i64 0, .int .i64 0, .string (nameL L).2, .string ⟨#[]⟩] from rfl))
            generalize w1.setCell ⟨xn, 0, none⟩ (.int .i64 tt) = w7_1 at HA HN HV HX ⊢
            replace HA := Aside0.mk (HA.out.cell HXN.out.1 HBN.out.1 1 (.int .i64 ww))
            replace HV := Aside0.mk (far_cell HV.out HNE.out.symm 1 (.int .i64 ww))
            replace HX := Aside0.mk (far_cell HX.out HFN.out.1 1 (.int .i64 ww))
            replace HN := Aside0.mk (blk_put HN.out 1 (.int .i64 ww) (show (#[.int .i64 tt, .int .i64 (nameL L).1.f1, .int .i64 0, .int .i64 0, .string (nameL L).2, .string ⟨#[]⟩] : Array Value).setIfInBounds 1 (.int .i64 ww) = #[.int .i64 tt, .int .i64 ww, .int .i64 0, .int .i64 0, .string (nameL L).2, .string ⟨#[]⟩] from rfl))
            generalize w7_1.setCell ⟨xn, 1, none⟩ (.int .i64 ww) = w7_2 at HA HN HV HX ⊢
            replace HA := Aside0.mk (HA.out.cell HXN.out.1 HBN.out.1 2 (.int .i64 0))
            replace HV := Aside0.mk (far_cell HV.out HNE.out.symm 2 (.int .i64 0))
            replace HX := Aside0.mk (far_cell HX.out HFN.out.1 2 (.int .i64 0))
            replace HN := Aside0.mk (blk_put HN.out 2 (.int .i64 0) (show (#[.int .i64 tt, .int .i64 ww, .int .i64 0, .int .i64 0, .string (nameL L).2, .string ⟨#[]⟩] : Array Value).setIfInBounds 2 (.int .i64 0) = #[.int .i64 tt, .int .i64 ww, .int .i64 0, .int .i64 0, .string (nameL L).2, .string ⟨#[]⟩] from rfl))
            generalize w7_2.setCell ⟨xn, 2, none⟩ (.int .i64 0) = w7_3 at HA HN HV HX ⊢
            replace HA := Aside0.mk (HA.out.cell HXN.out.1 HBN.out.1 3 (.int .i64 0))
            replace HV := Aside0.mk (far_cell HV.out HNE.out.symm 3 (.int .i64 0))
            replace HX := Aside0.mk (far_cell HX.out HFN.out.1 3 (.int .i64 0))
            replace HN := Aside0.mk (blk_put HN.out 3 (.int .i64 0) (show (#[.int .i64 tt, .int .i64 ww, .int .i64 0, .int .i64 0, .string (nameL L).2, .string ⟨#[]⟩] : Array Value).setIfInBounds 3 (.int .i64 0) = #[.int .i64 tt, .int .i64 ww, .int .i64 0, .int .i64 0, .string (nameL L).2, .string ⟨#[]⟩] from rfl))
            generalize w7_3.setCell ⟨xn, 3, none⟩ (.int .i64 0) = w7_4 at HA HN HV HX ⊢
            replace HA := Aside0.mk (HA.out.cell HXN.out.1 HBN.out.1 4 (.string nm))
            replace HV := Aside0.mk (far_cell HV.out HNE.out.symm 4 (.string nm))
            replace HX := Aside0.mk (far_cell HX.out HFN.out.1 4 (.string nm))
            replace HN := Aside0.mk (blk_put HN.out 4 (.string nm) (show (#[.int .i64 tt, .int .i64 ww, .int .i64 0, .int .i64 0, .string (nameL L).2, .string ⟨#[]⟩] : Array Value).setIfInBounds 4 (.string nm) = #[.int .i64 tt, .int .i64 ww, .int .i64 0, .int .i64 0, .string nm, .string ⟨#[]⟩] from rfl))
            generalize w7_4.setCell ⟨xn, 4, none⟩ (.string nm) = w7_5 at HA HN HV HX ⊢
            replace HA := Aside0.mk (HA.out.cell HXN.out.1 HBN.out.1 5 (.string ⟨#[]⟩))
            replace HV := Aside0.mk (far_cell HV.out HNE.out.symm 5 (.string ⟨#[]⟩))
            replace HX := Aside0.mk (far_cell HX.out HFN.out.1 5 (.string ⟨#[]⟩))
            replace HN := Aside0.mk (blk_put HN.out 5 (.string ⟨#[]⟩) (show (#[.int .i64 tt, .int .i64 ww, .int .i64 0, .int .i64 0, .string nm, .string ⟨#[]⟩] : Array Value).setIfInBounds 5 (.string ⟨#[]⟩) = #[.int .i64 tt, .int .i64 ww, .int .i64 0, .int .i64 0, .string nm, .string ⟨#[]⟩] from rfl))
            generalize w7_5.setCell ⟨xn, 5, none⟩ (.string ⟨#[]⟩) = w7 at HA HN HV HX ⊢
            obtain ⟨u0, u1, u2, u3, u4, u5, u6, u7, u8, u9, u10, u11, u12, u13, u14, u15, u16, u17⟩ := Z9 HX.out
            go_wp2
            have HNE_ := Aside0.mk (show w7.heap[xn]? = some (.cells #[.int .i64 (nameL (insO L (⟨3, ⟨tt, ww⟩, ⟨1, 1⟩, ⟨0, 0⟩, nm, ⟨#[]⟩⟩ : Opn))).1.f0, .int .i64 (nameL (insO L (⟨3, ⟨tt, ww⟩, ⟨1, 1⟩, ⟨0, 0⟩, nm, ⟨#[]⟩⟩ : Opn))).1.f1, .int .i64 0, .int .i64 0, .string (nameL (insO L (⟨3, ⟨tt, ww⟩, ⟨1, 1⟩, ⟨0, 0⟩, nm, ⟨#[]⟩⟩ : Opn))).2, .string ⟨#[]⟩] 36 (0, 0)) by rw [HE1.out]; exact HN.out)
            have HVE_ := Aside0.mk (show w7.heap[xv]? = some (.cells #[.int .i64 (valL (insO L (⟨3, ⟨tt, ww⟩, ⟨1, 1⟩, ⟨0, 0⟩, nm, ⟨#[]⟩⟩ : Opn))).1.f0, .int .i64 (valL (insO L (⟨3, ⟨tt, ww⟩, ⟨1, 1⟩, ⟨0, 0⟩, nm, ⟨#[]⟩⟩ : Opn))).1.f1, .int .i64 0, .int .i64 0, .string ⟨#[]⟩, .string (valL (insO L (⟨3, ⟨tt, ww⟩, ⟨1, 1⟩, ⟨0, 0⟩, nm, ⟨#[]⟩⟩ : Opn))).2] 36 (0, 0)) by rw [HE2.out]; exact HV.out)
            go_roundg k1
            case measure => exact Nat.lt_succ_self _
            case rel => exact ⟨i + 1, _, v', T', ⟨last_k HK.out H1.out⟩, (by first | rfl | (rw [hwi]; rfl)), HA, HNE_, HVE_, HXN⟩
        · have HIN := Aside0.mk hin
          have HPUT := Aside0.mk (show putO T (⟨3, ⟨tt, ww⟩, ⟨1, 1⟩, ⟨0, 0⟩, nm, ⟨#[]⟩⟩ : Opn) 0 = (crO :: L, 0) by rw [HA.out.last.put HI24.out.1 HO.out, show isIn L ((⟨3, ⟨tt, ww⟩, ⟨1, 1⟩, ⟨0, 0⟩, nm, ⟨#[]⟩⟩ : Opn)).f1 = true from hin]; rfl)
          clear hin
          have HNW := HN
          have HVW := HV
          go_upto_region 16 with (go_at_call 14; refine (Apply_calls _ _ g f n _ _ (⟨3, ⟨tt, ww⟩, ⟨1, 1⟩, ⟨0, 0⟩, nm, ⟨#[]⟩⟩ : Opn) 40 0 HA.out.tree HA.out.last.good HCK.out (fun _ => last_ok3) (HL.out.below HA.out.below)).mono ?_; rintro e w' ⟨T', v', rfl, ht, hg, h1, h2, h3, h4, h5⟩; rw [HPUT.out]; have HA' := Aside0.mk (HA.out.same HI24.out.1 HO.out HIN.out ht hg h1 h2 h3 h4); replace HN := Aside0.mk (h4.blk HN.out HXN.out.1); replace HV := Aside0.mk (h4.blk HV.out HXN.out.2); replace HX := Aside0.mk (h4.blk HX.out HFX.out.1); have HXN' := Aside0.mk (last_feet HXN.out HNW.out HVW.out h5); clear ht hg h1 h2 h3 h4 h5)
          clear u0 u1 u2 u3 u4 u5 u6 u7 u8 u9 u10 u11 u12 u13 u14 u15 u16 u17 HNW HVW HPUT HFX HXN
          replace HXN := HXN'
          have HML := Aside0.mk HA'.out.2
          replace HA := Aside0.mk HA'.out.1
          clear HA' HXN'
          obtain ⟨m1, hm1⟩ : ∃ m, T'.ops.length = m := ⟨_, rfl⟩
          have HM1 := Aside0.mk (show T'.ops.length ≤ 1000000 by have := HML.out; have := HM0.out; omega)
          obtain ⟨dm1, dm2, dm3⟩ := last_eq HML.out hm1 HMZ.out
          go_wp2_with (go_at_call 17; refine (Ops_calls _ _ g f n v' T' HA.out.tree HM1.out).mono ?_; rintro e w1 ⟨v_, rfl, ho, hb⟩; replace HA := Aside0.mk (HA.out.under hb); replace HN := Aside0.mk (blk_below HN.out hb); replace HV := Aside0.mk (blk_below HV.out hb); replace HX := Aside0.mk (blk_below HX.out hb); obtain ⟨S0, d0, rfl, hc1, hC1⟩ := Kd.R_reads ho; clear ho hb hC1 hc1)
          go_roundg k1
          case measure => exact Nat.lt_succ_self _
          case rel => exact ⟨i + 1, L, v', T', ⟨last_k HK.out H1.out⟩, (by first | rfl | (rw [hwi]; rfl)), HA, HN, HV, HXN⟩
    · have d1 : decide ((i : Int) < (N : Int)) = false := decide_eq_false (by omega)
      have d2 : (i < N) = False := eq_false hi
      have HLK := Aside0.mk (last_look HA.out.last)
      have hlook := HLK.out.1
      have hhas := HLK.out.2
      clear hi
      go_upto_region 22 with (first
        | (go_at_call 13; refine (samphirelaw11_at.calls _ _ _ _ _ rfl).mono ?_; rintro e w1 ⟨rfl, hb⟩; replace HA := Aside0.mk (HA.out.under hb); replace HN := Aside0.mk (blk_below HN.out hb); replace HV := Aside0.mk (blk_below HV.out hb); clear hb)
        | (go_at_call 19; refine (Get_calls _ _ g f n v T ⟨_, _⟩ HA.out.tree).mono ?_; rintro e w1 ⟨rfl, hb⟩; replace HA := Aside0.mk (HA.out.under hb); replace HN := Aside0.mk (blk_below HN.out hb); replace HV := Aside0.mk (blk_below HV.out hb); clear hb))
      have HY := Aside0.mk (heap_alloc_new w1 (.cells #[.int .i64 1, .int .i64 1, .int .i64 0, .int .i64 0, .string (nameL L).2, .string (valL L).2] 36))
      replace HN := Aside0.mk (blk_below HN.out (below_alloc (Below.refl w1.heap.size w1) (.cells #[.int .i64 1, .int .i64 1, .int .i64 0, .int .i64 0, .string (nameL L).2, .string (valL L).2] 36)))
      replace HV := Aside0.mk (blk_below HV.out (below_alloc (Below.refl w1.heap.size w1) (.cells #[.int .i64 1, .int .i64 1, .int .i64 0, .int .i64 0, .string (nameL L).2, .string (valL L).2] 36)))
      replace HA := Aside0.mk (HA.out.under (below_alloc (Below.refl w1.heap.size w1) (.cells #[.int .i64 1, .int .i64 1, .int .i64 0, .int .i64 0, .string (nameL L).2, .string (valL L).2] 36)))
      generalize w1.heap.size = xy at HY ⊢
      generalize w1.alloc (.cells #[.int .i64 1, .int .i64 1, .int .i64 0, .int .i64 0, .string (nameL L).2, .string (valL L).2] 36) = w5 at HA HN HV HY ⊢
      obtain ⟨y0, y1, y2, y3, y4, y5⟩ := Y6 HY.out
      obtain ⟨n0, n1, n2, n3, n4, n5⟩ := Y6 HN.out
      obtain ⟨v0, v1_, v2, v3, v4, v5⟩ := Y6 HV.out
      go_wp2_with (go_at_call 16; refine (awake_calls _ (HL.out.below HA.out.below)).mono ?_; rintro e w1 ⟨rfl, hb⟩; replace HA := Aside0.mk (HA.out.under hb); clear hb)
      go_ret
      exact ⟨rfl, HA.out.below⟩
end Go.Proofs.YtiffeljmeahmkaaDoor.S
