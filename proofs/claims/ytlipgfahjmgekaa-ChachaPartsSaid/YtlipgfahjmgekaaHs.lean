/- A text turned into the bytes from a counter on, as the machine walks it: for every key, nonce, counter and text. -/
import Derived.Test.YtlipgfahjmgekaaHg
namespace Go.Proofs.Ytlipgfahjmgekaa.S
open Go.RowKit Go.Proofs.YtlipgfahjmgekaaW.PrintWords Go.Proofs.YtlipgfahjmgekaaW.PrintLast Go.Proofs.YtlipgfahjmgekaaW.PrintMore
attribute [local go_sem] max2_int min2_int max_two min_two max_three min_three max_four min_four
set_option linter.unusedVariables false
set_option linter.unusedSimpArgs false

/-- Bytes at the head of a block that may bear a mark behind its end. -/
def BytesAt (W : World) (g : Nat) (L : List Int) : Prop := ∃ (cs : Array Value) (m : Nat), W.heap[g]? = some (.cells cs 5 (m, m + 1)) ∧ cs.size ≤ m ∧ L.length ≤ cs.size ∧ ∀ i, i < L.length → cs[i]? = some (.int .u8 (L.getD i 0))
theorem BytesAt.lt {W : World} {g : Nat} {L : List Int} (h : BytesAt W g L) : g < W.heap.size := by
  obtain ⟨cs, m, h1, _⟩ := h
  exact (Array.getElem?_eq_some_iff.1 h1).1
theorem BytesAt.cell {W : World} {g : Nat} {L : List Int} (h : BytesAt W g L) (i : Nat) (hi : i < L.length) : W.cell? ⟨g, i, none⟩ = some (.int .u8 (L.getD i 0)) := by
  obtain ⟨cs, m, h1, _, _, h4⟩ := h
  rw [cell_of_row W g i cs 5 _ h1]
  exact h4 i hi
theorem BytesAt.frozen {W : World} {g : Nat} {L : List Int} (h : BytesAt W g L) (i : Nat) (hi : i < L.length) : W.frozen? ⟨g, i, none⟩ = false := by
  obtain ⟨cs, m, h1, h2, h3, _⟩ := h
  simp [World.frozen?, h1]
  omega
theorem BytesAt.put {W : World} {g : Nat} {L : List Int} (h : BytesAt W g L) (i : Nat) (v : Int) : BytesAt (W.setCell ⟨g, i, none⟩ (.int .u8 v)) g (L.set i v) := by
  obtain ⟨cs, m, h1, h2, h3, h4⟩ := h
  refine ⟨cs.setIfInBounds i (.int .u8 v), m, ?_, by simpa using h2, by simpa using h3, fun j hj => ?_⟩
  · show (W.heap.modify g _)[g]? = _
    rw [Array.getElem?_modify, if_pos rfl, h1]
    rfl
  · rw [List.length_set] at hj
    rw [Array.getElem?_setIfInBounds]
    by_cases he : i = j
    · subst he
      rw [if_pos rfl, if_pos (by omega)]
      simp [hj]
    · rw [if_neg he, h4 j hj]
      simp [List.getElem?_set, he]
theorem BytesAt.below {W W1 : World} {g : Nat} {L : List Int} (h : BytesAt W g L) (hb : Below W.heap.size W W1) : BytesAt W1 g L := by
  have hl := h.lt
  obtain ⟨cs, m, h1, h2⟩ := h
  exact ⟨cs, m, (hb.block g hl).trans h1, h2⟩
theorem BytesAt.far {W : World} {g : Nat} {L : List Int} (h : BytesAt W g L) {p : Addr} (hp : g ≠ p.block) (u : Value) : BytesAt (W.setCell p u) g L := by
  obtain ⟨cs, m, h1, h2⟩ := h
  exact ⟨cs, m, (Below.heap_setCell W p u g hp).trans h1, h2⟩
theorem BytesAt.row {W : World} {g g' : Nat} {L : List Int} (h : BytesAt W g L) (hp : g ≠ g') (cs' : Array Value) : BytesAt (W.setRow g' cs') g L := by
  obtain ⟨cs, m, h1, h2⟩ := h
  exact ⟨cs, m, (setRow_heap W g' cs' g hp).trans h1, h2⟩
theorem BytesAt.new (W : World) (s : ByteArray) (c : Nat) : BytesAt (W.alloc (.cells (bytesRow s c) 5 ((bytesRow s c).size, (bytesRow s c).size + 1))) W.heap.size (bytesOf s) := by
  have hsz : s.size ≤ (bytesRow s c).size := by simp [bytesRow]
  have hl : (bytesOf s).length = s.size := bytesOf_length s
  refine ⟨_, _, heap_alloc_new W _, Nat.le_refl _, by omega, fun i hi => ?_⟩
  have hd : s.data.size = s.size := rfl
  rw [bytesRow_at s c i (by omega)]
  simp [bytesOf, hd, show i < s.size by omega]
/-- The byte of the stream from a counter on. -/
def kb (key nonce : ByteArray) (ctr : Int) (i : Nat) : Int := (blockL key nonce (ctr + (i / 64 : Nat))).getD (i % 64) 0
def turned1 (key nonce : ByteArray) (ctr : Int) (s : ByteArray) (i : Nat) : Int := Go.bits .xor .u8 (bt s i) (kb key nonce ctr i)
/-- The text, its first m bytes turned. -/
def streamL (key nonce : ByteArray) (ctr : Int) (s : ByteArray) (m : Nat) : List Int := (List.range s.size).map fun i => if i < m then turned1 key nonce ctr s i else bt s i
def stream_.T11 : Bool × List (List Nat × List Nat) := (true, [([], []), ([], []), ([], []), ([1, 2], [1, 2]), ([0, 3], [0, 3]), ([4], [4]), ([], []), ([6], [6]), ([7], [7]), ([5, 8], [5, 8]), ([0, 3, 0, 1, 2, 3, 4, 5, 6, 7, 8, 9], [0, 3]), ([10, 9, 0, 1, 2, 3, 4, 5, 6, 7, 8, 9], [9, 10])])
def stream_.B11 : List Nat := [0, 0, 0, 6, 15, 31, 0, 64, 192, 511, 1023, 2047]
theorem stream_.tab11 : rtab .any (opsOf Try.f15 11) = stream_.T11 := by kernel_rfl
theorem stream_.bits11 : waitsOk stream_.T11.2 stream_.B11 = true := by kernel_rfl
theorem streamL_length (key nonce : ByteArray) (ctr : Int) (s : ByteArray) (m : Nat) : (streamL key nonce ctr s m).length = s.size := by simp [streamL]
theorem streamL_zero (key nonce : ByteArray) (ctr : Int) (s : ByteArray) : streamL key nonce ctr s 0 = bytesOf s := by
  apply List.ext_getElem
  · rw [streamL_length, bytesOf_length]
  · intro i h1 h2
    rw [streamL_length] at h1
    have hd : s.data.size = s.size := rfl
    simp [streamL, bytesOf, bt, h1]
    rfl
theorem streamL_at (key nonce : ByteArray) (ctr : Int) (s : ByteArray) (m i : Nat) (h : i < s.size) (hm : m ≤ i) : (streamL key nonce ctr s m).getD i 0 = bt s i := by
  simp [streamL, h]
  omega
theorem streamL_put (key nonce : ByteArray) (ctr : Int) (s : ByteArray) (m : Nat) (h : m < s.size) : (streamL key nonce ctr s m).set m (turned1 key nonce ctr s m) = streamL key nonce ctr s (m + 1) := by
  apply List.ext_getElem
  · simp [streamL]
  · intro i h1 h2
    rw [List.getElem_set]
    simp only [streamL, List.getElem_map, List.getElem_range]
    by_cases he : m = i
    · subst he
      simp
    · rw [if_neg he]
      by_cases hl : i < m
      · rw [if_pos hl, if_pos (by omega)]
      · rw [if_neg hl, if_neg (by omega)]
set_option maxHeartbeats 8000000 in
set_option maxRecDepth 100000 in
theorem stream15 (key nonce s : ByteArray) (ctr : Int) (w : World) (A : Aside0 (chacha_may.f key nonce ctr = some true)) (hs : (s.size : Int) ≤ 65536) (hc : ((s.size : Int) + 63) / 64 ≤ 4294967296 - ctr) (c0 : 0 ≤ ctr) (c1 : ctr < 4294967296)
    (hb : ∀ (c : Int) (w : World), 0 ≤ c → c < 4294967296 → Calls Try.prog 21 #[.string key, .string nonce, .int .i64 c] w fun e w' => e = .returned (.agg (cellsOf .u8 (blockL key nonce c))) ∧ Below w.heap.size w w') :
    Calls Try.prog 15 #[.string key, .string nonce, .int .i64 ctr, .string s] w fun e w' => e = .returned (.tuple #[.string (strOfNums (streamL key nonce ctr s s.size)), .int .i64 0]) ∧ Below w.heap.size w w' := by
  have HB := Aside0.mk hb
  clear hb
  have hconv := fun (w : World) => run_bytes_of_string (P := Try.prog) w 9 33 5 s Try.underlying9 Try.underlying33 Try.underlying5
  go_enter Try.func15, Try.ntmps15
  go_wp2_with (go_at_call 20; refine (chacha_may.calls _ _ _ true _ A.out).mono ?_; rintro e w' ⟨rfl, ⟨nd, rfl⟩⟩)
  have hP : Aside0 (BytesAt ((w.drewN (nd + 1)).alloc (.cells (bytesRow s (grownCap (w.drewN nd) s.size 0 5)) 5 ((bytesRow s (grownCap (w.drewN nd) s.size 0 5)).size, (bytesRow s (grownCap (w.drewN nd) s.size 0 5)).size + 1))) w.heap.size (streamL key nonce ctr s 0)) := ⟨by rw [streamL_zero]; exact BytesAt.new (w.drewN (nd + 1)) s _⟩
  have hB : Aside0 (Below w.heap.size w ((w.drewN (nd + 1)).alloc (.cells (bytesRow s (grownCap (w.drewN nd) s.size 0 5)) 5 ((bytesRow s (grownCap (w.drewN nd) s.size 0 5)).size, (bytesRow s (grownCap (w.drewN nd) s.size 0 5)).size + 1)))) := ⟨below_alloc (pw_below_drewN (Below.refl _ _) _) _⟩
  clear hconv A
  go_loopw [11] (fun i wr => ∃ a : Nat, a % 64 = 0 ∧ a < s.size + 64 ∧ i = .int .i64 a ∧ Aside0 (BytesAt wr w.heap.size (streamL key nonce ctr s (min a s.size))) ∧ Aside0 (Below w.heap.size w wr)) (fun i _ => s.size + 64 - (intOf i).toNat)
  case atStart => exact ⟨0, by omega, by omega, rfl, ⟨by rw [Nat.zero_min]; exact hP.out⟩, hB⟩
  case round =>
    clear hP hB
    obtain ⟨a, ha, hau, rfl, hP, hB⟩ := hrel
    by_cases hlt : a < s.size
    · have hC := HB.out (ctr + (a : Int) / 64)
      obtain ⟨wo, rfl⟩ : ∃ wo : World, wo = wr := ⟨_, rfl⟩
      have hP : Aside0 (BytesAt wo w.heap.size (streamL key nonce ctr s a)) := ⟨by have h := hP.out; rw [Nat.min_eq_left (by omega)] at h; exact h⟩
      obtain ⟨m, hm⟩ : ∃ m : Nat, m = min 64 (s.size - a) := ⟨_, rfl⟩
      obtain ⟨LB, hLB⟩ : ∃ L, L = blockL key nonce (ctr + (a : Int) / 64) := ⟨_, rfl⟩
      rw [← hLB] at hC
      have hlb : Aside0 (LB.length = 64) := ⟨by rw [hLB]; exact blockL_length _ _ _⟩
      replace hLB := Aside0.mk hLB
      have hmn : (if (s.size : Int) - a < 64 then (s.size : Int) - a else 64) = (m : Int) := by rw [hm]; split <;> omega
      have hm64 : m ≤ 64 := by omega
      have hma : a + m ≤ s.size := by omega
      replace hm := Aside0.mk hm
      go_wp2_with (first | (go_at_call 21; refine (hC _ (by omega) (by omega)).mono ?_; rintro e w1 ⟨rfl, hb1⟩) | (refine wpList_store_row rfl 41 (.tmp 12) (.tmp 48) rfl w1.heap.size (cellsOf .u8 LB) rfl rfl 41 _ (heap_alloc_new w1 _) (by rw [cellsOf_size, hlb.out]; kernel_rfl) (by rw [cellsOf_size, hlb.out]; rfl) (by simp [cellsOf, Value.oneCell']) ?_))
      clear hmn hC
      have hK := Aside0.mk (setRow_at (heap_alloc_new w1 (.cells (cellsOf .u8 (List.replicate 64 0)) 41)) (cellsOf .u8 LB))
      have hgo := hP.out.lt
      have hw1 : w.heap.size < w1.heap.size := by have := hb1.size; omega
      have hP : Aside0 (BytesAt ((w1.alloc (.cells (cellsOf .u8 (List.replicate 64 0)) 41)).setRow w1.heap.size (cellsOf .u8 LB)) w.heap.size (streamL key nonce ctr s (a + 0))) := ⟨((hP.out.below hb1).below (below_alloc (Below.refl _ _) _)).row (by omega) _⟩
      have hB : Aside0 (Below w.heap.size w ((w1.alloc (.cells (cellsOf .u8 (List.replicate 64 0)) 41)).setRow w1.heap.size (cellsOf .u8 LB))) := ⟨setRow_below (below_alloc (below_then hB.out hB.out.size hb1) _) (by omega) _⟩
      clear hb1 hgo
      go_loopw [54] (fun i wr => ∃ k : Nat, k ≤ m ∧ i = .int .i64 k ∧ Aside0 (BytesAt wr w.heap.size (streamL key nonce ctr s (a + k))) ∧ Aside0 (ArrIs .u8 41 wr w1.heap.size LB) ∧ Aside0 (Below w.heap.size w wr)) (fun i _ => m - (intOf i).toNat)
      case atStart => exact ⟨0, by omega, rfl, hP, hK, hB⟩
      case round =>
        clear hP hK hB
        obtain ⟨k, hk, rfl, hP, hK, hB⟩ := hrel
        by_cases hlk : k < m
        · have hPl := streamL_length key nonce ctr s (a + k)
          have hP : Aside0 (BytesAt wr.drew w.heap.size (streamL key nonce ctr s (a + k))) := hP
          have hK : Aside0 (ArrIs .u8 41 wr.drew w1.heap.size LB) := hK
          have hB : Aside0 (Below w.heap.size w wr.drew) := ⟨below_drew hB.out⟩
          have co := hP.out.cell (a + k) (by omega)
          have f0 := hP.out.frozen (a + k) (by omega)
          have cb := hK.out.cell k (by rw [hlb.out]; omega)
          rw [streamL_at _ _ _ _ _ _ (by omega) (by omega)] at co
          obtain ⟨xb, hxb⟩ : ∃ x, x = bt s ((a + k : Nat) : Int) := ⟨_, rfl⟩
          obtain ⟨yb, hyb⟩ : ∃ x, x = LB.getD k 0 := ⟨_, rfl⟩
          rw [← hxb] at co
          rw [← hyb] at cb
          have hkb : Aside0 (yb = kb key nonce ctr (a + k)) := ⟨by rw [hyb, hLB.out]; unfold kb; rw [show (a + k) / 64 = a / 64 by omega, show (a + k) % 64 = k by omega]; rfl⟩
          have hput : Aside0 ((streamL key nonce ctr s (a + k)).set (a + k) (Go.bits .xor .u8 xb yb) = streamL key nonce ctr s (a + (k + 1))) := ⟨by rw [hkb.out, hxb]; exact streamL_put key nonce ctr s (a + k) (by omega)⟩
          have z1 := Aside0.mk (hP.out.put (a + k) (Go.bits .xor .u8 xb yb))
          have hz2 := hK.out.far (p := ⟨w.heap.size, a + k, none⟩) (by simp; omega) (.int .u8 (Go.bits .xor .u8 xb yb))
          have z2 := Aside0.mk hz2
          clear hxb hyb hPl hz2
          have e1 : IntKind.i64.wrap ((a : Int) + (k : Int)) = (a : Int) + (k : Int) := by rw [IntKind.wrap_i64]; omega
          have t1 : ((a : Int) + (k : Int)).toNat = a + k := by omega
          have i1 : ((a : Int) + (k : Int) < (s.size : Int)) = True := eq_true (by omega)
          have j1 : (0 ≤ (a : Int) + (k : Int)) = True := eq_true (by omega)
          have i2 : ((k : Int) < 64) = True := eq_true (by omega)
          go_wp2_with fail
          refine start_ (n := 12) (S := fun w' => w'.cell? ⟨w.heap.size, a + k, none⟩ = some (.int .u8 xb) ∧ w'.cell? ⟨w1.heap.size, k, none⟩ = some (.int .u8 yb)) (ds := [11]) #[false, false, false, false, false, false, false, false, false, false, false, false] (by kernel_rfl) rfl rfl ⟨co, cb⟩ (fun hHeld => ?_)
          refine with_tabW stream_.tab11 stream_.bits11 (fun HT_ HW_ => ?_)
          generalize wr.drew = wq at hP hK hB co cb f0 z1 z2 hHeld ⊢
          refine pure_ (i := 0) (N := some 57) (v := ?_) (a' := ?_) #[true, false, false, false, false, false, false, false, false, false, false, false] rfl rfl (any_of HT_.out (by kernel_rfl)) (fun _ _ _ h => h) (Or.inl ⟨by rfl, ?_⟩) ?_ ?_
          rotate_left
          · intro w'
            go_simp
            with_reducible rfl
          rotate_left
          · simp only [Act.put, List.setIfInBounds_toArray, List.set_cons_zero, List.set_cons_succ, i64_w, i32_w]
            rfl
          refine pure_ (i := 1) (N := some 58) (v := ?_) (a' := ?_) #[true, true, false, false, false, false, false, false, false, false, false, false] rfl rfl (any_of HT_.out (by kernel_rfl)) (fun _ _ _ h => h) (Or.inl ⟨by rfl, ?_⟩) ?_ ?_
          rotate_left
          · intro w'
            go_simp
            with_reducible rfl
          rotate_left
          · simp only [Act.put, List.setIfInBounds_toArray, List.set_cons_zero, List.set_cons_succ, i64_w, i32_w]
            rfl
          refine pure_ (i := 2) (N := some 59) (v := ?_) (a' := ?_) #[true, true, true, false, false, false, false, false, false, false, false, false] rfl rfl (any_of HT_.out (by kernel_rfl)) (fun _ _ _ h => h) (Or.inl ⟨by rfl, ?_⟩) ?_ ?_
          rotate_left
          · intro w'
            go_simp
            with_reducible rfl
          rotate_left
          · simp only [Act.put, List.setIfInBounds_toArray, List.set_cons_zero, List.set_cons_succ, i64_w, i32_w]
            rfl
          refine pure_ (i := 3) (N := some 60) (v := ?_) (a' := ?_) #[true, true, true, true, false, false, false, false, false, false, false, false] rfl rfl (any_of HT_.out (by kernel_rfl)) (fun _ _ _ h => h) (Or.inl ⟨by rfl, ?_⟩) ?_ ?_
          rotate_left
          · intro w'
            go_simp
            with_reducible rfl
          rotate_left
          · simp only [Act.put, List.setIfInBounds_toArray, List.set_cons_zero, List.set_cons_succ, i64_w, i32_w]
            rfl
          refine pure_ (i := 4) (N := some 61) (v := ?_) (a' := ?_) #[true, true, true, true, true, false, false, false, false, false, false, false] rfl rfl (any_of HT_.out (by kernel_rfl)) (fun _ _ _ h => h) (Or.inl ⟨by rfl, ?_⟩) ?_ ?_
          rotate_left
          · intro w'
            go_simp
            with_reducible rfl
          rotate_left
          · simp only [Act.put, List.setIfInBounds_toArray, List.set_cons_zero, List.set_cons_succ, i64_w, i32_w]
            rfl
          refine pure_ (i := 6) (N := some 63) (v := ?_) (a' := ?_) #[true, true, true, true, true, false, true, false, false, false, false, false] rfl rfl (any_of HT_.out (by kernel_rfl)) (fun _ _ _ h => h) (Or.inl ⟨by rfl, ?_⟩) ?_ ?_
          rotate_left
          · intro w'
            go_simp
            with_reducible rfl
          rotate_left
          · simp only [Act.put, List.setIfInBounds_toArray, List.set_cons_zero, List.set_cons_succ, i64_w, i32_w]
            rfl
          refine pure_ (i := 7) (N := some 64) (v := ?_) (a' := ?_) #[true, true, true, true, true, false, true, true, false, false, false, false] rfl rfl (any_of HT_.out (by kernel_rfl)) (fun _ _ _ h => h) (Or.inl ⟨by rfl, ?_⟩) ?_ ?_
          rotate_left
          · intro w'
            go_simp
            with_reducible rfl
          rotate_left
          · simp only [Act.put, List.setIfInBounds_toArray, List.set_cons_zero, List.set_cons_succ, i64_w, i32_w]
            rfl
          refine take_ (i := 5) (N := some 62) (v := ?_) (a' := ?_) #[true, true, true, true, true, true, true, true, false, false, false, false] rfl rfl (take_ofW HT_.out HW_.out (by kernel_rfl)) (fun _ _ _ h => h) (Or.inl ⟨by rfl, ?_⟩) hHeld ?_ ?_
          rotate_left
          · rintro w' ⟨s0, s1⟩
            go_simp
            with_reducible rfl
          rotate_left
          · simp only [Act.put, List.setIfInBounds_toArray, List.set_cons_zero, List.set_cons_succ, i64_w, i32_w]
            rfl
          refine take_ (i := 8) (N := some 65) (v := ?_) (a' := ?_) #[true, true, true, true, true, true, true, true, true, false, false, false] rfl rfl (take_ofW HT_.out HW_.out (by kernel_rfl)) (fun _ _ _ h => h) (Or.inl ⟨by rfl, ?_⟩) hHeld ?_ ?_
          rotate_left
          · rintro w' ⟨s0, s1⟩
            go_simp
            with_reducible rfl
          rotate_left
          · simp only [Act.put, List.setIfInBounds_toArray, List.set_cons_zero, List.set_cons_succ, i64_w, i32_w]
            rfl
          refine pure_ (i := 9) (N := some 66) (v := ?_) (a' := ?_) #[true, true, true, true, true, true, true, true, true, true, false, false] rfl rfl (any_of HT_.out (by kernel_rfl)) (fun _ _ _ h => h) (Or.inl ⟨by rfl, ?_⟩) ?_ ?_
          rotate_left
          · intro w'
            go_simp
            with_reducible rfl
          rotate_left
          · simp only [Act.put, List.setIfInBounds_toArray, List.set_cons_zero, List.set_cons_succ, i64_w, i32_w]
            rfl
          refine pure_ (i := 10) (N := some 67) (v := ?_) (a' := ?_) #[true, true, true, true, true, true, true, true, true, true, true, false] rfl rfl (any_of HT_.out (by kernel_rfl)) (fun _ _ _ h => h) (Or.inl ⟨by rfl, ?_⟩) ?_ ?_
          rotate_left
          · intro w'
            go_simp
            with_reducible rfl
          rotate_left
          · simp only [Act.put, List.setIfInBounds_toArray, List.set_cons_zero, List.set_cons_succ, i64_w, i32_w]
            rfl
          refine last_ (i := 11) (N := none) #[true, true, true, true, true, true, true, true, true, true, true, true] rfl rfl (one_of HT_.out (by kernel_rfl)) (by decide) (fun K hK => ?_)
          refine skip_ (w1 := ?_) (by rfl) rfl ?_ ?_
          rotate_left
          · go_simp
            rfl
          refine hK.out _ _ ?_
          clear hK K
          refine done_ (done_of HT_.out (by kernel_rfl)) ?_

          clear e1 t1 i1 j1 i2
          go_wp2_with fail
          go_roundw
          case rel => exact ⟨k + 1, by omega, by go_num, ⟨by have h := z1.out; rw [hput.out] at h; exact h⟩, z2, ⟨below_set hB.out (Nat.le_refl _)⟩⟩
          case measure => simp [intOf]; omega
        · obtain rfl : k = m := by omega
          go_wp2_with fail
          go_roundw
          case rel => exact ⟨a + 64, by omega, by omega, by go_num, ⟨by have h := hP.out; rw [show a + k = min (a + 64) s.size by have := hm.out; omega] at h; exact h⟩, hB⟩
          case measure => simp [intOf]; omega
    · have hP : Aside0 (BytesAt wr w.heap.size (streamL key nonce ctr s s.size)) := ⟨by have h := hP.out; rw [Nat.min_eq_right (by omega)] at h; exact h⟩
      have hcv := run_convert_bytes_arg (P := Try.prog) wr 33 5 Try.underlying33 Try.underlying5 w.heap.size 0 s.size (grownCap (w.drewN nd) s.size 0 5) (streamL key nonce ctr s s.size) (streamL_length _ _ _ _ _) (fun i hi => by rw [Nat.zero_add]; exact hP.out.cell i (by rw [streamL_length]; exact hi)) 9 Try.underlying9
      go_wp2_with fail
      go_ret2
      exact ⟨rfl, hB.out⟩
def tooMuch (ctr : Int) (s : ByteArray) : Prop := 65536 < (s.size : Int) ∨ 4294967296 - ctr < ((s.size : Int) + 64 - 1) / 64
instance (ctr : Int) (s : ByteArray) : Decidable (tooMuch ctr s) := by unfold tooMuch; infer_instance
def chacha_Stream.f (a0 a1 : ByteArray) (a2 : Int) (a3 : ByteArray) : Option (ByteArray × Int) := if maY a0 a1 a2 ∧ ¬ tooMuch a2 a3 then some (strOfNums (streamL a0 a1 a2 a3 a3.size), 0) else some (⟨#[]⟩, 1)
set_option maxHeartbeats 8000000 in
set_option maxRecDepth 100000 in
theorem stream_no (a0 a1 a3 : ByteArray) (a2 : Int) (w : World) (h : chacha_may.f a0 a1 a2 = some false) :
    Calls Try.prog 15 #[.string a0, .string a1, .int .i64 a2, .string a3] w fun e w' => e = .returned (.tuple #[.string ⟨#[]⟩, .int .i64 1]) ∧ Below w.heap.size w w' := by
  have A := Aside0.mk h
  clear h
  go_enter Try.func15, Try.ntmps15
  go_wp2_with (go_at_call 20; refine (chacha_may.calls _ _ _ false _ A.out).mono ?_; rintro e w' ⟨rfl, ⟨nd, rfl⟩⟩)
  go_ret2
  exact ⟨rfl, pw_below_drewN (Below.refl _ _) _⟩
set_option maxHeartbeats 8000000 in
set_option maxRecDepth 100000 in
theorem stream_long (a0 a1 a3 : ByteArray) (a2 : Int) (w : World) (h : chacha_may.f a0 a1 a2 = some true) (hl : 65536 < (a3.size : Int)) :
    Calls Try.prog 15 #[.string a0, .string a1, .int .i64 a2, .string a3] w fun e w' => e = .returned (.tuple #[.string ⟨#[]⟩, .int .i64 1]) ∧ Below w.heap.size w w' := by
  have A := Aside0.mk h
  clear h
  go_enter Try.func15, Try.ntmps15
  go_wp2_with (go_at_call 20; refine (chacha_may.calls _ _ _ true _ A.out).mono ?_; rintro e w' ⟨rfl, ⟨nd, rfl⟩⟩)
  go_ret2
  exact ⟨rfl, pw_below_drewN (Below.refl _ _) _⟩
set_option maxHeartbeats 8000000 in
set_option maxRecDepth 100000 in
theorem stream_many (a0 a1 a3 : ByteArray) (a2 : Int) (w : World) (h : chacha_may.f a0 a1 a2 = some true) (h0 : 0 ≤ a2) (h1 : a2 < 4294967296) (hs : (a3.size : Int) ≤ 65536) (hl : 4294967296 - a2 < ((a3.size : Int) + 64 - 1) / 64) :
    Calls Try.prog 15 #[.string a0, .string a1, .int .i64 a2, .string a3] w fun e w' => e = .returned (.tuple #[.string ⟨#[]⟩, .int .i64 1]) ∧ Below w.heap.size w w' := by
  have A := Aside0.mk h
  clear h
  go_enter Try.func15, Try.ntmps15
  go_wp2_with (go_at_call 20; refine (chacha_may.calls _ _ _ true _ A.out).mono ?_; rintro e w' ⟨rfl, ⟨nd, rfl⟩⟩)
  go_ret2
  exact ⟨rfl, pw_below_drewN (Below.refl _ _) _⟩
theorem chacha_Stream.calls (a0 a1 : ByteArray) (a2 : Int) (a3 : ByteArray) (r1 : ByteArray) (r2 : Int) (w : World) (h : chacha_Stream.f a0 a1 a2 a3 = some (r1, r2)) :
    Calls Try.prog 15 #[.string a0, .string a1, .int .i64 a2, .string a3] w fun e w' => e = .returned (.tuple #[.string r1, .int .i64 r2]) ∧ Below w.heap.size w w' := by
  unfold chacha_Stream.f at h
  by_cases hm : maY a0 a1 a2
  · have hy : chacha_may.f a0 a1 a2 = some true := by rw [may_is]; simp [hm]
    by_cases ht : tooMuch a2 a3
    · rw [if_neg (fun hh => hh.2 ht)] at h
      simp only [Option.some.injEq, Prod.mk.injEq] at h
      obtain ⟨rfl, rfl⟩ := h
      by_cases hl : 65536 < (a3.size : Int)
      · exact stream_long a0 a1 a3 a2 w hy hl
      · exact stream_many a0 a1 a3 a2 w hy hm.2.2.1 hm.2.2.2 (by omega) (by rcases ht with h1 | h1; exact absurd h1 hl; exact h1)
    · rw [if_pos ⟨hm, ht⟩] at h
      simp only [Option.some.injEq, Prod.mk.injEq] at h
      obtain ⟨rfl, rfl⟩ := h
      unfold tooMuch at ht
      exact stream15 a0 a1 a3 a2 w ⟨hy⟩ (by omega) (by omega) hm.2.2.1 hm.2.2.2 (fun c w h0 h1 => chacha_bytes.calls a0 a1 c w hm.1 hm.2.1 h0 h1)
  · rw [if_neg (fun hh => hm hh.1)] at h
    simp only [Option.some.injEq, Prod.mk.injEq] at h
    obtain ⟨rfl, rfl⟩ := h
    exact stream_no a0 a1 a3 a2 w (by rw [may_is]; simp [hm])
end Go.Proofs.Ytlipgfahjmgekaa.S
