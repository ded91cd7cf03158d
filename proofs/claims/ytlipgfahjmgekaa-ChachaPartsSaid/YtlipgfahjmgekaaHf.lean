/- The sixty-four bytes of a counter, as the machine walks them: for each key of 32 bytes, nonce of 12 and counter of one word. -/
import Derived.Test.YtlipgfahjmgekaaHb
import Derived.Test.YtlipgfahjmgekaaArr
namespace Go.Proofs.Ytlipgfahjmgekaa.S
open Go.RowKit Go.Proofs.YtlipgfahjmgekaaW.PrintWords Go.Proofs.YtlipgfahjmgekaaW.PrintLast Go.Proofs.YtlipgfahjmgekaaW.PrintMore
attribute [local go_sem] max2_int min2_int max_two min_two max_three min_three max_four min_four
set_option linter.unusedVariables false
set_option linter.unusedSimpArgs false

def zeros16 : List Int := List.replicate 16 0
abbrev W32 := BitVec 32
def at_ (V : List W32) (i : Nat) : W32 := V.getD i 0
def q4 (V : List W32) (a b c d : Nat) : Q4 := qr ⟨at_ V a, at_ V b, at_ V c, at_ V d⟩
def stepQ (V : List W32) (a b c d : Nat) : List W32 := (((V.set a (q4 V a b c d).a).set b (q4 V a b c d).b).set c (q4 V a b c d).c).set d (q4 V a b c d).d
theorem stepQ_length (V : List W32) (a b c d : Nat) : (stepQ V a b c d).length = V.length := by simp [stepQ]
def cols (V : List W32) : Nat → List W32
  | 0 => V
  | k + 1 => stepQ (cols V k) k (k + 4) (k + 8) (k + 12)
def diags (V : List W32) : Nat → List W32
  | 0 => V
  | k + 1 => stepQ (diags V k) k (4 + (k + 1) % 4) (8 + (k + 2) % 4) (12 + (k + 3) % 4)
def turns (V : List W32) : Nat → List W32
  | 0 => V
  | n + 1 => diags (cols (turns V n) 4) 4
theorem cols_length (V : List W32) : ∀ k, (cols V k).length = V.length
  | 0 => rfl
  | k + 1 => by rw [cols, stepQ_length, cols_length V k]
theorem diags_length (V : List W32) : ∀ k, (diags V k).length = V.length
  | 0 => rfl
  | k + 1 => by rw [diags, stepQ_length, diags_length V k]
theorem turns_length (V : List W32) : ∀ k, (turns V k).length = V.length
  | 0 => rfl
  | k + 1 => by rw [turns, diags_length, cols_length, turns_length V k]
def firstW (hf kf nf : Nat → W32) (c : W32) : List W32 := fill ((fill (fill (List.replicate 16 0) 0 hf 4) 4 kf 8).set 12 c) 13 nf 3
theorem fill_map (V : List W32) (off : Nat) (f : Nat → W32) : ∀ n, fill (V.map U) off (fun k => U (f k)) n = (fill V off f n).map U
  | 0 => rfl
  | n + 1 => by rw [fill, fill, fill_map V off f n, List.map_set]
theorem first_map (hf kf nf : Nat → W32) (ctr : Int) (h0 : 0 ≤ ctr) (h1 : ctr < 4294967296) :
    fill ((fill (fill zeros16 0 (fun k => U (hf k)) 4) 4 (fun k => U (kf k)) 8).set 12 ctr) 13 (fun k => U (nf k)) 3 = (firstW hf kf nf (BitVec.ofInt 32 ctr)).map U := by
  have hz : zeros16 = (List.replicate 16 (0 : W32)).map U := by simp [zeros16, U]
  have hc : ctr = U (BitVec.ofInt 32 ctr) := by rw [U_ofInt]; omega
  unfold firstW
  have e : ∀ L : List W32, (L.map U).set 12 ctr = (L.set 12 (BitVec.ofInt 32 ctr)).map U := by
    intro L
    rw [List.map_set, ← hc]
  rw [hz, fill_map, fill_map, e, fill_map]
theorem first_length (hf kf nf : Nat → W32) (c : W32) : (firstW hf kf nf c).length = 16 := by simp [firstW, fill_length]
theorem mapU_getD (V : List W32) (i : Nat) (h : i < V.length) : (V.map U).getD i 0 = U (at_ V i) := by simp [at_, h]
theorem step_map (V : List W32) (a b c d : Nat) : ((((V.map U).set a (U (q4 V a b c d).a)).set b (U (q4 V a b c d).b)).set c (U (q4 V a b c d).c)).set d (U (q4 V a b c d).d) = (stepQ V a b c d).map U := by
  simp [stepQ, List.map_set]
theorem sizeOf37 (w : World) : (sizeOf 37).run Try.prog w = .ok 1 w := by kernel_rfl
theorem part37 (cs : Array Value) (i : Nat) (v : Value) (w : World) (h : cs[i]? = some v) : (part 37 cs i).run Try.prog w = .ok v w := by
  go_simp
theorem index50 (L : List Int) (k : Nat) (hk : k < L.length) (hl : L.length = 16) (w : World) : (Instr.index 50 (.agg (cellsOf .u32 L)) (.int .i64 k)).run Try.prog w = .ok (.int .u32 (L.getD k 0)) w := by
  have hp := part37 (cellsOf .u32 L) k (.int .u32 (L.getD k 0)) w (by simp [cellsOf, hk])
  unfold Instr.index
  simp only [asIntOf, Sem.run_bind, Sem.run_pure, Result.andThen_ok, run_underlying Try.underlying50, sizeOf37]
  rw [if_pos (by omega)]
  simpa [sizeOf37] using hp
def byteL (x : Int) : List Int := [x % 256, x / 256 % 256, x / 65536 % 256, x / 16777216]
def put4 (L : List Int) (k : Nat) (x : Int) : List Int := (((L.set (4 * k) (x % 256)).set (4 * k + 1) (x / 256 % 256)).set (4 * k + 2) (x / 65536 % 256)).set (4 * k + 3) (x / 16777216)
def outL (V V0 : List W32) : Nat → List Int
  | 0 => List.replicate 64 0
  | k + 1 => put4 (outL V V0 k) k (U (at_ V k + at_ V0 k))
theorem outL_length (V V0 : List W32) : ∀ k, (outL V V0 k).length = 64
  | 0 => by simp [outL]
  | k + 1 => by simp [outL, put4, outL_length V V0 k]
def bytes_.T24 : Bool × List (List Nat × List Nat) := (true, [([], []), ([], []), ([1], [1]), ([], []), ([3], [3]), ([], []), ([5], [5]), ([], []), ([7], [7]), ([8], [8]), ([], []), ([10], [10]), ([11], [11]), ([12], [12]), ([], []), ([14], [14]), ([15], [15]), ([16], [16]), ([], []), ([18], [18]), ([19], [19]), ([20], [20]), ([9, 13, 17, 21], [9, 13, 17, 21]), ([22], [22]), ([23], [23]), ([23], [23]), ([23], [23]), ([23], [23]), ([0, 0, 7, 8, 9, 10, 11, 12, 13, 14, 15, 16, 17, 18, 19, 20, 21, 22, 23, 24], [0]), ([28, 24, 22, 0, 7, 8, 9, 10, 11, 12, 13, 14, 15, 16, 17, 18, 19, 20, 21, 22, 23, 24], [24, 28]), ([2, 0, 1, 2, 7, 8, 9, 10, 11, 12, 13, 14, 15, 16, 17, 18, 19, 20, 21, 22, 23, 24, 25, 28, 29], [2]), ([30, 25, 29, 0, 1, 2, 7, 8, 9, 10, 11, 12, 13, 14, 15, 16, 17, 18, 19, 20, 21, 22, 23, 24, 25, 28, 29], [25, 30]), ([4, 0, 1, 2, 3, 4, 7, 8, 9, 10, 11, 12, 13, 14, 15, 16, 17, 18, 19, 20, 21, 22, 23, 24, 25, 26, 28, 29, 30, 31], [4]), ([32, 26, 31, 0, 1, 2, 3, 4, 7, 8, 9, 10, 11, 12, 13, 14, 15, 16, 17, 18, 19, 20, 21, 22, 23, 24, 25, 26, 28, 29, 30, 31], [26, 32]), ([6, 0, 1, 2, 3, 4, 5, 6, 7, 8, 9, 10, 11, 12, 13, 14, 15, 16, 17, 18, 19, 20, 21, 22, 23, 24, 25, 26, 27, 28, 29, 30, 31, 32, 33], [6]), ([34, 27, 33, 0, 1, 2, 3, 4, 5, 6, 7, 8, 9, 10, 11, 12, 13, 14, 15, 16, 17, 18, 19, 20, 21, 22, 23, 24, 25, 26, 27, 28, 29, 30, 31, 32, 33], [27, 34])])
def bytes_.B24 : List Nat := [0, 0, 2, 0, 8, 0, 32, 0, 128, 384, 0, 1024, 3072, 7168, 0, 16384, 49152, 114688, 0, 262144, 786432, 1835008, 4194176, 8388480, 16777088, 16777088, 16777088, 16777088, 33554305, 301989761, 872415111, 1946156935, 4160749471, 8455716767, 17179869183, 34359738367]
theorem bytes_.tab24 : rtab .any (opsOf Try.f21 24) = bytes_.T24 := by kernel_rfl
theorem bytes_.bits24 : waitsOk bytes_.T24.2 bytes_.B24 = true := by kernel_rfl
def bytes_.T30 : Bool × List (List Nat × List Nat) := (true, [([], []), ([], []), ([], []), ([], []), ([], []), ([4], [4]), ([5], [5]), ([], []), ([7], [7]), ([8], [8]), ([], []), ([10], [10]), ([11], [11]), ([], []), ([13], [13]), ([14], [14]), ([6, 9, 12, 15], [6, 9, 12, 15]), ([16], [16]), ([17], [17]), ([17], [17]), ([17], [17]), ([17], [17]), ([0, 0, 4, 5, 6, 7, 8, 9, 10, 11, 12, 13, 14, 15, 16, 17, 18], [0]), ([22, 18, 16, 0, 4, 5, 6, 7, 8, 9, 10, 11, 12, 13, 14, 15, 16, 17, 18], [18, 22]), ([1, 0, 1, 4, 5, 6, 7, 8, 9, 10, 11, 12, 13, 14, 15, 16, 17, 18, 19, 22, 23], [1]), ([24, 19, 23, 0, 1, 4, 5, 6, 7, 8, 9, 10, 11, 12, 13, 14, 15, 16, 17, 18, 19, 22, 23], [19, 24]), ([2, 0, 1, 2, 4, 5, 6, 7, 8, 9, 10, 11, 12, 13, 14, 15, 16, 17, 18, 19, 20, 22, 23, 24, 25], [2]), ([26, 20, 25, 0, 1, 2, 4, 5, 6, 7, 8, 9, 10, 11, 12, 13, 14, 15, 16, 17, 18, 19, 20, 22, 23, 24, 25], [20, 26]), ([3, 0, 1, 2, 3, 4, 5, 6, 7, 8, 9, 10, 11, 12, 13, 14, 15, 16, 17, 18, 19, 20, 21, 22, 23, 24, 25, 26, 27], [3]), ([28, 21, 27, 0, 1, 2, 3, 4, 5, 6, 7, 8, 9, 10, 11, 12, 13, 14, 15, 16, 17, 18, 19, 20, 21, 22, 23, 24, 25, 26, 27], [21, 28])])
def bytes_.B30 : List Nat := [0, 0, 0, 0, 0, 16, 48, 0, 128, 384, 0, 1024, 3072, 0, 8192, 24576, 65520, 131056, 262128, 262128, 262128, 262128, 524273, 4718577, 13631475, 30408691, 65011703, 132120567, 268435455, 536870911]
theorem bytes_.tab30 : rtab .any (opsOf Try.f21 30) = bytes_.T30 := by kernel_rfl
theorem bytes_.bits30 : waitsOk bytes_.T30.2 bytes_.B30 = true := by kernel_rfl
set_option maxHeartbeats 8000000 in
set_option maxRecDepth 100000 in
theorem bytes21 (key nonce : ByteArray) (ctr : Int) (w : World) (hf kf nf : Nat → W32) (hkey : Aside0 (key.size = 32)) (hnonce : Aside0 (nonce.size = 12)) (c0 : 0 ≤ ctr) (c1 : ctr < 4294967296)
    (Hh : Aside0 (∀ k : Nat, k < 4 → chacha_small.f ((⟨#[101, 120, 112, 97, 110, 100, 32, 51, 50, 45, 98, 121, 116, 101, 32, 107]⟩ : ByteArray).extract (4 * k) 16) = some (U (hf k))))
    (Hk : Aside0 (∀ k : Nat, k < 8 → chacha_small.f (key.extract (4 * k) key.size) = some (U (kf k))))
    (Hn : Aside0 (∀ k : Nat, k < 3 → chacha_small.f (nonce.extract (4 * k) nonce.size) = some (U (nf k)))) :
    Calls Try.prog 21 #[.string key, .string nonce, .int .i64 ctr] w fun e w' => e = .returned (.agg (cellsOf .u8 (outL (turns (firstW hf kf nf (BitVec.ofInt 32 ctr)) 10) (firstW hf kf nf (BitVec.ofInt 32 ctr)) 16))) ∧ Below w.heap.size w w' := by
  go_enter Try.func21, Try.ntmps21
  go_wp2_with fail
  have hA0 : Aside0 (ArrIs .u32 50 ((w.alloc (.cells (cellsOf .u8 (List.replicate 64 0)) 41)).alloc (.cells (cellsOf .u32 zeros16) 50)) (w.heap.size + 1) zeros16) := ⟨by simpa using ArrIs.new (w.alloc (.cells (cellsOf .u8 (List.replicate 64 0)) 41)) .u32 50 zeros16⟩
  have hO0 : Aside0 (ArrIs .u8 41 ((w.alloc (.cells (cellsOf .u8 (List.replicate 64 0)) 41)).alloc (.cells (cellsOf .u32 zeros16) 50)) w.heap.size (List.replicate 64 0)) := ⟨(ArrIs.new w .u8 41 _).alloc _⟩
  have hB0 : Aside0 (Below w.heap.size w ((w.alloc (.cells (cellsOf .u8 (List.replicate 64 0)) 41)).alloc (.cells (cellsOf .u32 zeros16) 50))) := ⟨below_alloc (below_alloc (Below.refl _ _) _) _⟩
  go_loopw [20] (fun i wr => ∃ k : Nat, k ≤ 4 ∧ i = .int .i64 k ∧ Aside0 (ArrIs .u32 50 wr (w.heap.size + 1) (fill zeros16 0 (fun k => U (hf k)) k)) ∧ Aside0 (ArrIs .u8 41 wr w.heap.size (List.replicate 64 0)) ∧ Aside0 (Below w.heap.size w wr)) (fun i _ => 4 - (intOf i).toNat)
  case atStart => exact ⟨0, by omega, rfl, hA0, hO0, hB0⟩
  case round =>
    clear hA0 hO0 hB0
    obtain ⟨k, hk, rfl, hA, hO, hB⟩ := hrel
    by_cases hlt : k < 4
    · have hc := hA.out.cell k (by rw [fill_length]; simp [zeros16]; omega)
      have hz := hA.out.frozen k
      go_wp2_with (go_at_call 27; refine (chacha_small.calls _ (U (hf k)) _ (Hh.out k hlt)).mono ?_; rintro e w' ⟨rfl, ⟨nd, rfl⟩⟩)
      go_roundw
      case rel => exact ⟨k + 1, by omega, by go_num, ⟨by have := (hA.out.drewN nd).put k (U (hf k)); simpa [fill] using this⟩, ⟨(hO.out.drewN nd).far (by simp) _⟩, ⟨below_set (pw_below_drewN hB.out nd) (by omega)⟩⟩
      case measure => simp [intOf]; omega
    · obtain rfl : k = 4 := by omega
      obtain ⟨L4, hL4⟩ : ∃ L, L = fill zeros16 0 (fun k => U (hf k)) 4 := ⟨_, rfl⟩
      rw [← hL4] at hA
      have hl4 : L4.length = 16 := by rw [hL4, fill_length]; rfl
      have HL4 := Aside0.mk hL4
      clear hL4
      have hl4' : Aside0 (L4.length = 16) := ⟨hl4⟩
      clear hl4 hlt hk
      go_wp2_with fail
      go_loopw [30] (fun i wr => ∃ k : Nat, k ≤ 8 ∧ i = .int .i64 k ∧ Aside0 (ArrIs .u32 50 wr (w.heap.size + 1) (fill L4 4 (fun k => U (kf k)) k)) ∧ Aside0 (ArrIs .u8 41 wr w.heap.size (List.replicate 64 0)) ∧ Aside0 (Below w.heap.size w wr)) (fun i _ => 8 - (intOf i).toNat)
      case atStart => exact ⟨0, by omega, rfl, hA, hO, hB⟩
      case round =>
        clear hA hO hB
        obtain ⟨k, hk, rfl, hA, hO, hB⟩ := hrel
        by_cases hlt : k < 8
        · have hc := hA.out.cell (4 + k) (by rw [fill_length, hl4'.out]; omega)
          have hz := hA.out.frozen (4 + k)
          have hs : (4 * (k : Int)) ≤ (key.size : Int) := by rw [hkey.out]; omega
          go_wp2_with (go_at_call 27; refine (chacha_small.calls _ (U (kf k)) _ (Hk.out k hlt)).mono ?_; rintro e w' ⟨rfl, ⟨nd, rfl⟩⟩)
          go_roundw
          case rel => (repeat apply Exists.intro); refine ⟨?rr8, rfl⟩; exact ⟨k + 1, by omega, by go_num, ⟨by have := (hA.out.drewN nd).put (4 + k) (U (kf k)); simpa [fill] using this⟩, ⟨(hO.out.drewN nd).far (by simp) _⟩, ⟨below_set (pw_below_drewN hB.out nd) (by omega)⟩⟩
          case measure => simp [intOf]; omega
        · obtain rfl : k = 8 := by omega
          obtain ⟨L8, hL8⟩ : ∃ L, L = fill L4 4 (fun k => U (kf k)) 8 := ⟨_, rfl⟩
          rw [← hL8] at hA
          have hl8' : Aside0 (L8.length = 16) := ⟨by rw [hL8, fill_length, hl4'.out]⟩
          have HL8 := Aside0.mk hL8
          clear hL8 hlt hk
          have hc12 := hA.out.cell 12 (by rw [hl8'.out]; omega)
          have hz12 := hA.out.frozen 12
          go_wp2_with fail
          have hA := Aside0.mk (hA.out.put 12 ctr)
          have hO := Aside0.mk (hO.out.far (p := ⟨w.heap.size + 1, 12, none⟩) (by simp) (.int .u32 ctr))
          have hB := Aside0.mk (below_set (j := 12) (v := .int .u32 ctr) hB.out (show w.heap.size ≤ w.heap.size + 1 by omega))
          clear hc12 hz12
          obtain ⟨L13, hL13⟩ : ∃ L, L = L8.set 12 ctr := ⟨_, rfl⟩
          rw [← hL13] at hA
          have hl13' : Aside0 (L13.length = 16) := ⟨by rw [hL13, List.length_set, hl8'.out]⟩
          have HL13 := Aside0.mk hL13
          clear hL13
          go_loopw [45] (fun i wr => ∃ k : Nat, k ≤ 3 ∧ i = .int .i64 k ∧ Aside0 (ArrIs .u32 50 wr (w.heap.size + 1) (fill L13 13 (fun k => U (nf k)) k)) ∧ Aside0 (ArrIs .u8 41 wr w.heap.size (List.replicate 64 0)) ∧ Aside0 (Below w.heap.size w wr)) (fun i _ => 3 - (intOf i).toNat)
          case atStart => exact ⟨0, by omega, rfl, hA, hO, hB⟩
          case round =>
            clear hA hO hB
            obtain ⟨k, hk, rfl, hA, hO, hB⟩ := hrel
            by_cases hlt : k < 3
            · have hc := hA.out.cell (13 + k) (by rw [fill_length, hl13'.out]; omega)
              have hz := hA.out.frozen (13 + k)
              have hs : (4 * (k : Int)) ≤ (nonce.size : Int) := by rw [hnonce.out]; omega
              go_wp2_with (go_at_call 27; refine (chacha_small.calls _ (U (nf k)) _ (Hn.out k hlt)).mono ?_; rintro e w' ⟨rfl, ⟨nd, rfl⟩⟩)
              go_roundw
              case rel => (repeat apply Exists.intro); refine ⟨?rr3, rfl⟩; exact ⟨k + 1, by omega, by go_num, ⟨by have := (hA.out.drewN nd).put (13 + k) (U (nf k)); simpa [fill] using this⟩, ⟨(hO.out.drewN nd).far (by simp) _⟩, ⟨below_set (pw_below_drewN hB.out nd) (by omega)⟩⟩
              case measure => simp [intOf]; omega
            · obtain rfl : k = 3 := by omega
              obtain ⟨V0, hV0⟩ : ∃ V, V = firstW hf kf nf (BitVec.ofInt 32 ctr) := ⟨_, rfl⟩
              have hA : Aside0 (ArrIs .u32 50 wr (w.heap.size + 1) (V0.map U)) := ⟨by have h := hA.out; rw [HL13.out, HL8.out, HL4.out, first_map hf kf nf ctr c0 c1, ← hV0] at h; exact h⟩
              have hlW : Aside0 (V0.length = 16) := ⟨by rw [hV0]; exact first_length _ _ _ _⟩
              have HV0 := Aside0.mk hV0
              clear hV0 hlt hk HL13 HL8 HL4 hl4' hl8' hl13' Hh Hk Hn
              obtain ⟨wz, rfl⟩ : ∃ wz : World, wz = wr := ⟨_, rfl⟩
              have hM1 : w.heap.size + 1 < wz.heap.size := hA.out.lt
              have Hn := Aside0.mk (heap_alloc_new wz (.cells (cellsOf .u32 zeros16) 50))
              go_wp2_with (first | (refine wpList_load_row rfl 50 (.tmp 7) rfl (w.heap.size + 1) rfl 50 (cellsOf .u32 (V0.map U)) (0, 0) (.array 16 37) hA.out Try.underlying50 rfl (by rw [cellsOf_size, List.length_map, hlW.out]; kernel_rfl) ?_) | (refine wpList_store_row rfl 50 (.tmp 11) (.tmp 57) rfl wz.heap.size (cellsOf .u32 (V0.map U)) rfl rfl 50 _ (heap_alloc_new wz _) (by rw [cellsOf_size, List.length_map, hlW.out]; kernel_rfl) (by rw [cellsOf_size, List.length_map, hlW.out]; rfl) (by simp [cellsOf, Value.oneCell']) ?_))
              have hC := Aside0.mk (setRow_at Hn.out (cellsOf .u32 (V0.map U)))
              have hA := Aside0.mk (((setRow_heap _ wz.heap.size (cellsOf .u32 (V0.map U)) (w.heap.size + 1) (by omega)).trans (hA.out.alloc (.cells (cellsOf .u32 zeros16) 50))))
              have hO := Aside0.mk (((setRow_heap _ wz.heap.size (cellsOf .u32 (V0.map U)) w.heap.size (by omega)).trans (hO.out.alloc (.cells (cellsOf .u32 zeros16) 50))))
              have hB := Aside0.mk (setRow_below (below_alloc hB.out (.cells (cellsOf .u32 zeros16) 50)) (show w.heap.size ≤ wz.heap.size by omega) (cellsOf .u32 (V0.map U)))
              clear Hn
              go_loopw [58] (fun i wr => ∃ n : Nat, n ≤ 10 ∧ i = .int .i64 n ∧ Aside0 (ArrIs .u32 50 wr (w.heap.size + 1) ((turns V0 n).map U)) ∧ Aside0 (ArrIs .u32 50 wr wz.heap.size (V0.map U)) ∧ Aside0 (ArrIs .u8 41 wr w.heap.size (List.replicate 64 0)) ∧ Aside0 (Below w.heap.size w wr)) (fun i _ => 10 - (intOf i).toNat)
              case atStart => exact ⟨0, by omega, rfl, hA, hC, hO, hB⟩
              case round =>
                clear hA hO hB hC
                obtain ⟨n, hn, rfl, hA, hC, hO, hB⟩ := hrel
                by_cases hlt : n < 10
                · obtain ⟨V1, hV1⟩ : ∃ V, V = turns V0 n := ⟨_, rfl⟩
                  rw [← hV1] at hA
                  have hl1 : Aside0 (V1.length = 16) := ⟨by rw [hV1, turns_length, hlW.out]⟩
                  have HV1 := Aside0.mk hV1
                  clear hV1
                  obtain ⟨wo, rfl⟩ : ∃ wo : World, wo = wr := ⟨_, rfl⟩
                  go_wp2_with fail
                  go_loopw [60] (fun i wr => ∃ k : Nat, k ≤ 4 ∧ i = .int .i64 k ∧ Aside0 (ArrIs .u32 50 wr (w.heap.size + 1) ((cols V1 k).map U)) ∧ Aside0 (ArrIs .u32 50 wr wz.heap.size (V0.map U)) ∧ Aside0 (ArrIs .u8 41 wr w.heap.size (List.replicate 64 0)) ∧ Aside0 (Below w.heap.size w wr)) (fun i _ => 4 - (intOf i).toNat)
                  case atStart => exact ⟨0, by omega, rfl, hA, hC, hO, hB⟩
                  case round =>
                    clear hA hO hB hC
                    obtain ⟨k, hk, rfl, hA, hC, hO, hB⟩ := hrel
                    by_cases hlt4 : k < 4
                    · go_wp2_with fail
                      obtain ⟨Vk, hVk⟩ : ∃ V, V = cols V1 k := ⟨_, rfl⟩
                      rw [← hVk] at hA
                      have hlk : Vk.length = 16 := by rw [hVk, cols_length, hl1.out]
                      have HVk := Aside0.mk hVk
                      clear hVk
                      obtain ⟨xa, hxa⟩ : ∃ x, x = at_ Vk k := ⟨_, rfl⟩
                      obtain ⟨xb, hxb⟩ : ∃ x, x = at_ Vk (k + 4) := ⟨_, rfl⟩
                      obtain ⟨xc, hxc⟩ : ∃ x, x = at_ Vk (k + 8) := ⟨_, rfl⟩
                      obtain ⟨xd, hxd⟩ : ∃ x, x = at_ Vk (k + 12) := ⟨_, rfl⟩
                      have ca := hA.out.drew.cell k (by rw [List.length_map]; omega)
                      have cb := hA.out.drew.cell (k + 4) (by rw [List.length_map]; omega)
                      have cc := hA.out.drew.cell (k + 8) (by rw [List.length_map]; omega)
                      have cd := hA.out.drew.cell (k + 12) (by rw [List.length_map]; omega)
                      rw [mapU_getD _ _ (by omega), ← hxa] at ca
                      rw [mapU_getD _ _ (by omega), ← hxb] at cb
                      rw [mapU_getD _ _ (by omega), ← hxc] at cc
                      rw [mapU_getD _ _ (by omega), ← hxd] at cd
                      obtain ⟨ya, hya⟩ : ∃ y, y = (q4 Vk k (k + 4) (k + 8) (k + 12)).a := ⟨_, rfl⟩
                      obtain ⟨yb, hyb⟩ : ∃ y, y = (q4 Vk k (k + 4) (k + 8) (k + 12)).b := ⟨_, rfl⟩
                      obtain ⟨yc, hyc⟩ : ∃ y, y = (q4 Vk k (k + 4) (k + 8) (k + 12)).c := ⟨_, rfl⟩
                      obtain ⟨yd, hyd⟩ : ∃ y, y = (q4 Vk k (k + 4) (k + 8) (k + 12)).d := ⟨_, rfl⟩
                      have HQ : Aside0 (chacha_quarter.f (U xa) (U xb) (U xc) (U xd) = some (U ya, U yb, U yc, U yd)) := ⟨by rw [hya, hyb, hyc, hyd, hxa, hxb, hxc, hxd]; exact quarter_U ⟨at_ Vk k, at_ Vk (k + 4), at_ Vk (k + 8), at_ Vk (k + 12)⟩⟩
                      have hstep : Aside0 (((((Vk.map U).set k (U ya)).set (k + 4) (U yb)).set (k + 8) (U yc)).set (k + 12) (U yd) = (cols V1 (k + 1)).map U) := ⟨by rw [hya, hyb, hyc, hyd, step_map, cols, HVk.out]⟩
                      clear hxa hxb hxc hxd hya hyb hyc hyd
                      have hl0 : k < (Vk.map U).length := by rw [List.length_map]; omega
                      have hl1' : k + 4 < ((Vk.map U).set k (U ya)).length := by simp; omega
                      have hl2' : k + 8 < (((Vk.map U).set k (U ya)).set (k + 4) (U yb)).length := by simp; omega
                      have hl3' : k + 12 < ((((Vk.map U).set k (U ya)).set (k + 4) (U yb)).set (k + 8) (U yc)).length := by simp; omega
                      have hL0 := Aside0.mk hl0
                      have hL1 := Aside0.mk hl1'
                      have hL2 := Aside0.mk hl2'
                      have hL3 := Aside0.mk hl3'
                      clear hl0 hl1' hl2' hl3' hlk
                      have hAV := Aside0.mk hA.out.drew
                      have hCV := Aside0.mk hC.out.drew
                      have hOV := Aside0.mk hO.out.drew
                      have hBV := Aside0.mk (below_drew hB.out)
                      clear hA hC hO hB
                      have e4 : IntKind.i64.wrap ((k : Int) + 4) = (k : Int) + 4 := by rw [IntKind.wrap_i64]; omega
                      have e8 : IntKind.i64.wrap ((k : Int) + 8) = (k : Int) + 8 := by rw [IntKind.wrap_i64]; omega
                      have e12 : IntKind.i64.wrap ((k : Int) + 12) = (k : Int) + 12 := by rw [IntKind.wrap_i64]; omega
                      have t4 : ((k : Int) + 4).toNat = k + 4 := by omega
                      have t8 : ((k : Int) + 8).toNat = k + 8 := by omega
                      have t12 : ((k : Int) + 12).toNat = k + 12 := by omega
                      have i0 : ((k : Int) < 16) = True := eq_true (by omega)
                      have i4 : ((k : Int) + 4 < 16) = True := eq_true (by omega)
                      have i8 : ((k : Int) + 8 < 16) = True := eq_true (by omega)
                      have i12 : ((k : Int) + 12 < 16) = True := eq_true (by omega)
                      have j4 : (0 ≤ (k : Int) + 4) = True := eq_true (by omega)
                      have j8 : (0 ≤ (k : Int) + 8) = True := eq_true (by omega)
                      have j12 : (0 ≤ (k : Int) + 12) = True := eq_true (by omega)
                      refine start_ (n := 36) (S := fun w' => w'.cell? ⟨w.heap.size + 1, k, none⟩ = some (.int .u32 (U xa)) ∧ w'.cell? ⟨w.heap.size + 1, k + 4, none⟩ = some (.int .u32 (U xb)) ∧ w'.cell? ⟨w.heap.size + 1, k + 8, none⟩ = some (.int .u32 (U xc)) ∧ w'.cell? ⟨w.heap.size + 1, k + 12, none⟩ = some (.int .u32 (U xd))) (ds := [29, 31, 33, 35]) #[false, false, false, false, false, false, false, false, false, false, false, false, false, false, false, false, false, false, false, false, false, false, false, false, false, false, false, false, false, false, false, false, false, false, false, false] (by kernel_rfl) rfl rfl ⟨ca, cb, cc, cd⟩ (fun hHeld => ?_)
                      refine with_tabW bytes_.tab24 bytes_.bits24 (fun HT_ HW_ => ?_)
                      generalize wr.drew = wq at hAV hCV hOV hBV ca cb cc cd hHeld ⊢
                      refine pure_ (i := 0) (N := some 64) (v := ?_) (a' := ?_) #[true, false, false, false, false, false, false, false, false, false, false, false, false, false, false, false, false, false, false, false, false, false, false, false, false, false, false, false, false, false, false, false, false, false, false, false] rfl rfl (any_of HT_.out (by kernel_rfl)) (fun _ _ _ h => h) (Or.inl ⟨by rfl, ?_⟩) ?_ ?_
                      rotate_left
                      · intro w'
                        go_simp
                        with_reducible rfl
                      rotate_left
                      · simp only [Act.put, List.setIfInBounds_toArray, List.set_cons_zero, List.set_cons_succ, i64_w, i32_w]
                        rfl
                      refine pure_ (i := 1) (N := some 65) (v := ?_) (a' := ?_) #[true, true, false, false, false, false, false, false, false, false, false, false, false, false, false, false, false, false, false, false, false, false, false, false, false, false, false, false, false, false, false, false, false, false, false, false] rfl rfl (any_of HT_.out (by kernel_rfl)) (fun _ _ _ h => h) (Or.inl ⟨by rfl, ?_⟩) ?_ ?_
                      rotate_left
                      · intro w'
                        go_simp
                        with_reducible rfl
                      rotate_left
                      · simp only [Act.put, List.setIfInBounds_toArray, List.set_cons_zero, List.set_cons_succ, i64_w, i32_w]
                        rfl
                      refine pure_ (i := 2) (N := some 66) (v := ?_) (a' := ?_) #[true, true, true, false, false, false, false, false, false, false, false, false, false, false, false, false, false, false, false, false, false, false, false, false, false, false, false, false, false, false, false, false, false, false, false, false] rfl rfl (any_of HT_.out (by kernel_rfl)) (fun _ _ _ h => h) (Or.inl ⟨by rfl, ?_⟩) ?_ ?_
                      rotate_left
                      · intro w'
                        go_simp
                        with_reducible rfl
                      rotate_left
                      · simp only [Act.put, List.setIfInBounds_toArray, List.set_cons_zero, List.set_cons_succ, i64_w, i32_w]
                        rfl
                      refine pure_ (i := 3) (N := some 67) (v := ?_) (a' := ?_) #[true, true, true, true, false, false, false, false, false, false, false, false, false, false, false, false, false, false, false, false, false, false, false, false, false, false, false, false, false, false, false, false, false, false, false, false] rfl rfl (any_of HT_.out (by kernel_rfl)) (fun _ _ _ h => h) (Or.inl ⟨by rfl, ?_⟩) ?_ ?_
                      rotate_left
                      · intro w'
                        go_simp
                        with_reducible rfl
                      rotate_left
                      · simp only [Act.put, List.setIfInBounds_toArray, List.set_cons_zero, List.set_cons_succ, i64_w, i32_w]
                        rfl
                      refine pure_ (i := 4) (N := some 68) (v := ?_) (a' := ?_) #[true, true, true, true, true, false, false, false, false, false, false, false, false, false, false, false, false, false, false, false, false, false, false, false, false, false, false, false, false, false, false, false, false, false, false, false] rfl rfl (any_of HT_.out (by kernel_rfl)) (fun _ _ _ h => h) (Or.inl ⟨by rfl, ?_⟩) ?_ ?_
                      rotate_left
                      · intro w'
                        go_simp
                        with_reducible rfl
                      rotate_left
                      · simp only [Act.put, List.setIfInBounds_toArray, List.set_cons_zero, List.set_cons_succ, i64_w, i32_w]
                        rfl
                      refine pure_ (i := 5) (N := some 69) (v := ?_) (a' := ?_) #[true, true, true, true, true, true, false, false, false, false, false, false, false, false, false, false, false, false, false, false, false, false, false, false, false, false, false, false, false, false, false, false, false, false, false, false] rfl rfl (any_of HT_.out (by kernel_rfl)) (fun _ _ _ h => h) (Or.inl ⟨by rfl, ?_⟩) ?_ ?_
                      rotate_left
                      · intro w'
                        go_simp
                        with_reducible rfl
                      rotate_left
                      · simp only [Act.put, List.setIfInBounds_toArray, List.set_cons_zero, List.set_cons_succ, i64_w, i32_w]
                        rfl
                      refine pure_ (i := 6) (N := some 70) (v := ?_) (a' := ?_) #[true, true, true, true, true, true, true, false, false, false, false, false, false, false, false, false, false, false, false, false, false, false, false, false, false, false, false, false, false, false, false, false, false, false, false, false] rfl rfl (any_of HT_.out (by kernel_rfl)) (fun _ _ _ h => h) (Or.inl ⟨by rfl, ?_⟩) ?_ ?_
                      rotate_left
                      · intro w'
                        go_simp
                        with_reducible rfl
                      rotate_left
                      · simp only [Act.put, List.setIfInBounds_toArray, List.set_cons_zero, List.set_cons_succ, i64_w, i32_w]
                        rfl
                      refine pure_ (i := 7) (N := some 71) (v := ?_) (a' := ?_) #[true, true, true, true, true, true, true, true, false, false, false, false, false, false, false, false, false, false, false, false, false, false, false, false, false, false, false, false, false, false, false, false, false, false, false, false] rfl rfl (any_of HT_.out (by kernel_rfl)) (fun _ _ _ h => h) (Or.inl ⟨by rfl, ?_⟩) ?_ ?_
                      rotate_left
                      · intro w'
                        go_simp
                        with_reducible rfl
                      rotate_left
                      · simp only [Act.put, List.setIfInBounds_toArray, List.set_cons_zero, List.set_cons_succ, i64_w, i32_w]
                        rfl
                      refine pure_ (i := 8) (N := some 72) (v := ?_) (a' := ?_) #[true, true, true, true, true, true, true, true, true, false, false, false, false, false, false, false, false, false, false, false, false, false, false, false, false, false, false, false, false, false, false, false, false, false, false, false] rfl rfl (any_of HT_.out (by kernel_rfl)) (fun _ _ _ h => h) (Or.inl ⟨by rfl, ?_⟩) ?_ ?_
                      rotate_left
                      · intro w'
                        go_simp
                        with_reducible rfl
                      rotate_left
                      · simp only [Act.put, List.setIfInBounds_toArray, List.set_cons_zero, List.set_cons_succ, i64_w, i32_w]
                        rfl
                      refine pure_ (i := 10) (N := some 74) (v := ?_) (a' := ?_) #[true, true, true, true, true, true, true, true, true, false, true, false, false, false, false, false, false, false, false, false, false, false, false, false, false, false, false, false, false, false, false, false, false, false, false, false] rfl rfl (any_of HT_.out (by kernel_rfl)) (fun _ _ _ h => h) (Or.inl ⟨by rfl, ?_⟩) ?_ ?_
                      rotate_left
                      · intro w'
                        go_simp
                        with_reducible rfl
                      rotate_left
                      · simp only [Act.put, List.setIfInBounds_toArray, List.set_cons_zero, List.set_cons_succ, i64_w, i32_w]
                        rfl
                      refine pure_ (i := 11) (N := some 75) (v := ?_) (a' := ?_) #[true, true, true, true, true, true, true, true, true, false, true, true, false, false, false, false, false, false, false, false, false, false, false, false, false, false, false, false, false, false, false, false, false, false, false, false] rfl rfl (any_of HT_.out (by kernel_rfl)) (fun _ _ _ h => h) (Or.inl ⟨by rfl, ?_⟩) ?_ ?_
                      rotate_left
                      · intro w'
                        go_simp
                        with_reducible rfl
                      rotate_left
                      · simp only [Act.put, List.setIfInBounds_toArray, List.set_cons_zero, List.set_cons_succ, i64_w, i32_w]
                        rfl
                      refine pure_ (i := 12) (N := some 76) (v := ?_) (a' := ?_) #[true, true, true, true, true, true, true, true, true, false, true, true, true, false, false, false, false, false, false, false, false, false, false, false, false, false, false, false, false, false, false, false, false, false, false, false] rfl rfl (any_of HT_.out (by kernel_rfl)) (fun _ _ _ h => h) (Or.inl ⟨by rfl, ?_⟩) ?_ ?_
                      rotate_left
                      · intro w'
                        go_simp
                        with_reducible rfl
                      rotate_left
                      · simp only [Act.put, List.setIfInBounds_toArray, List.set_cons_zero, List.set_cons_succ, i64_w, i32_w]
                        rfl
                      refine pure_ (i := 14) (N := some 78) (v := ?_) (a' := ?_) #[true, true, true, true, true, true, true, true, true, false, true, true, true, false, true, false, false, false, false, false, false, false, false, false, false, false, false, false, false, false, false, false, false, false, false, false] rfl rfl (any_of HT_.out (by kernel_rfl)) (fun _ _ _ h => h) (Or.inl ⟨by rfl, ?_⟩) ?_ ?_
                      rotate_left
                      · intro w'
                        go_simp
                        with_reducible rfl
                      rotate_left
                      · simp only [Act.put, List.setIfInBounds_toArray, List.set_cons_zero, List.set_cons_succ, i64_w, i32_w]
                        rfl
                      refine pure_ (i := 15) (N := some 79) (v := ?_) (a' := ?_) #[true, true, true, true, true, true, true, true, true, false, true, true, true, false, true, true, false, false, false, false, false, false, false, false, false, false, false, false, false, false, false, false, false, false, false, false] rfl rfl (any_of HT_.out (by kernel_rfl)) (fun _ _ _ h => h) (Or.inl ⟨by rfl, ?_⟩) ?_ ?_
                      rotate_left
                      · intro w'
                        go_simp
                        with_reducible rfl
                      rotate_left
                      · simp only [Act.put, List.setIfInBounds_toArray, List.set_cons_zero, List.set_cons_succ, i64_w, i32_w]
                        rfl
                      refine pure_ (i := 16) (N := some 80) (v := ?_) (a' := ?_) #[true, true, true, true, true, true, true, true, true, false, true, true, true, false, true, true, true, false, false, false, false, false, false, false, false, false, false, false, false, false, false, false, false, false, false, false] rfl rfl (any_of HT_.out (by kernel_rfl)) (fun _ _ _ h => h) (Or.inl ⟨by rfl, ?_⟩) ?_ ?_
                      rotate_left
                      · intro w'
                        go_simp
                        with_reducible rfl
                      rotate_left
                      · simp only [Act.put, List.setIfInBounds_toArray, List.set_cons_zero, List.set_cons_succ, i64_w, i32_w]
                        rfl
                      refine pure_ (i := 18) (N := some 82) (v := ?_) (a' := ?_) #[true, true, true, true, true, true, true, true, true, false, true, true, true, false, true, true, true, false, true, false, false, false, false, false, false, false, false, false, false, false, false, false, false, false, false, false] rfl rfl (any_of HT_.out (by kernel_rfl)) (fun _ _ _ h => h) (Or.inl ⟨by rfl, ?_⟩) ?_ ?_
                      rotate_left
                      · intro w'
                        go_simp
                        with_reducible rfl
                      rotate_left
                      · simp only [Act.put, List.setIfInBounds_toArray, List.set_cons_zero, List.set_cons_succ, i64_w, i32_w]
                        rfl
                      refine pure_ (i := 19) (N := some 83) (v := ?_) (a' := ?_) #[true, true, true, true, true, true, true, true, true, false, true, true, true, false, true, true, true, false, true, true, false, false, false, false, false, false, false, false, false, false, false, false, false, false, false, false] rfl rfl (any_of HT_.out (by kernel_rfl)) (fun _ _ _ h => h) (Or.inl ⟨by rfl, ?_⟩) ?_ ?_
                      rotate_left
                      · intro w'
                        go_simp
                        with_reducible rfl
                      rotate_left
                      · simp only [Act.put, List.setIfInBounds_toArray, List.set_cons_zero, List.set_cons_succ, i64_w, i32_w]
                        rfl
                      refine pure_ (i := 20) (N := some 84) (v := ?_) (a' := ?_) #[true, true, true, true, true, true, true, true, true, false, true, true, true, false, true, true, true, false, true, true, true, false, false, false, false, false, false, false, false, false, false, false, false, false, false, false] rfl rfl (any_of HT_.out (by kernel_rfl)) (fun _ _ _ h => h) (Or.inl ⟨by rfl, ?_⟩) ?_ ?_
                      rotate_left
                      · intro w'
                        go_simp
                        with_reducible rfl
                      rotate_left
                      · simp only [Act.put, List.setIfInBounds_toArray, List.set_cons_zero, List.set_cons_succ, i64_w, i32_w]
                        rfl
                      refine take_ (i := 9) (N := some 73) (v := ?_) (a' := ?_) #[true, true, true, true, true, true, true, true, true, true, true, true, true, false, true, true, true, false, true, true, true, false, false, false, false, false, false, false, false, false, false, false, false, false, false, false] rfl rfl (take_ofW HT_.out HW_.out (by kernel_rfl)) (fun _ _ _ h => h) (Or.inl ⟨by rfl, ?_⟩) hHeld ?_ ?_
                      rotate_left
                      · rintro w' ⟨s0, s1, s2, s3⟩
                        go_simp
                        with_reducible rfl
                      rotate_left
                      · simp only [Act.put, List.setIfInBounds_toArray, List.set_cons_zero, List.set_cons_succ, i64_w, i32_w]
                        rfl
                      refine take_ (i := 13) (N := some 77) (v := ?_) (a' := ?_) #[true, true, true, true, true, true, true, true, true, true, true, true, true, true, true, true, true, false, true, true, true, false, false, false, false, false, false, false, false, false, false, false, false, false, false, false] rfl rfl (take_ofW HT_.out HW_.out (by kernel_rfl)) (fun _ _ _ h => h) (Or.inl ⟨by rfl, ?_⟩) hHeld ?_ ?_
                      rotate_left
                      · rintro w' ⟨s0, s1, s2, s3⟩
                        go_simp
                        with_reducible rfl
                      rotate_left
                      · simp only [Act.put, List.setIfInBounds_toArray, List.set_cons_zero, List.set_cons_succ, i64_w, i32_w]
                        rfl
                      refine take_ (i := 17) (N := some 81) (v := ?_) (a' := ?_) #[true, true, true, true, true, true, true, true, true, true, true, true, true, true, true, true, true, true, true, true, true, false, false, false, false, false, false, false, false, false, false, false, false, false, false, false] rfl rfl (take_ofW HT_.out HW_.out (by kernel_rfl)) (fun _ _ _ h => h) (Or.inl ⟨by rfl, ?_⟩) hHeld ?_ ?_
                      rotate_left
                      · rintro w' ⟨s0, s1, s2, s3⟩
                        go_simp
                        with_reducible rfl
                      rotate_left
                      · simp only [Act.put, List.setIfInBounds_toArray, List.set_cons_zero, List.set_cons_succ, i64_w, i32_w]
                        rfl
                      refine take_ (i := 21) (N := some 85) (v := ?_) (a' := ?_) #[true, true, true, true, true, true, true, true, true, true, true, true, true, true, true, true, true, true, true, true, true, true, false, false, false, false, false, false, false, false, false, false, false, false, false, false] rfl rfl (take_ofW HT_.out HW_.out (by kernel_rfl)) (fun _ _ _ h => h) (Or.inl ⟨by rfl, ?_⟩) hHeld ?_ ?_
                      rotate_left
                      · rintro w' ⟨s0, s1, s2, s3⟩
                        go_simp
                        with_reducible rfl
                      rotate_left
                      · simp only [Act.put, List.setIfInBounds_toArray, List.set_cons_zero, List.set_cons_succ, i64_w, i32_w]
                        rfl
                      refine one_ (i := 22) (N := some 86) #[true, true, true, true, true, true, true, true, true, true, true, true, true, true, true, true, true, true, true, true, true, true, true, false, false, false, false, false, false, false, false, false, false, false, false, false] rfl rfl (one_of HT_.out (by kernel_rfl)) (by decide) (fun K hK => ?_)
                      refine goes_ Try.func18 (by kernel_rfl) rfl #[.int .u32 (U xa), .int .u32 (U xb), .int .u32 (U xc), .int .u32 (U xd)] (by rfl) rfl rfl (by simp only [List.map_toArray, List.map_cons, List.map_nil]; rfl) ?_
                      with_reducible refine (chacha_quarter.calls _ _ _ _ (U ya) (U yb) (U yc) (U yd) _ HQ.out).mono ?_
                      rintro e w3 ⟨rfl, ⟨nd, rfl⟩⟩
                      refine ⟨_, rfl, ?_⟩
                      have z1 := (hAV.out.drewN nd).put (k) (U ya)
                      have z2 := z1.put (k + 4) (U yb)
                      have z3 := z2.put (k + 8) (U yc)
                      have z4 := Aside0.mk (z3.put (k + 12) (U yd))
                      have g0 := (hAV.out.drewN nd).cell (k) hL0.out
                      have g1 := z1.cell (k + 4) hL1.out
                      have g2 := z2.cell (k + 8) hL2.out
                      have g3 := z3.cell (k + 12) hL3.out
                      have f0 := (hAV.out.drewN nd).frozen (k)
                      have f1 := z1.frozen (k + 4)
                      have f2 := z2.frozen (k + 8)
                      have f3 := z3.frozen (k + 12)
                      clear z1 z2 z3
                      refine hK.out _ _ ⟨ca, cb, cc, cd⟩ (fun hHeld => ?_)
                      clear hK K
                      refine norm_ (a' := ?_) ?_ ?_
                      rotate_left
                      · show Act.put _ (some 86) _ = _
                        simp only [Act.put, List.setIfInBounds_toArray, List.set_cons_zero, List.set_cons_succ, i64_w, i32_w]
                        rfl
                      refine pure_ (i := 23) (N := some 63) (v := ?_) (a' := ?_) #[true, true, true, true, true, true, true, true, true, true, true, true, true, true, true, true, true, true, true, true, true, true, true, true, false, false, false, false, false, false, false, false, false, false, false, false] rfl rfl (any_of HT_.out (by kernel_rfl)) (fun _ _ _ h => h) (Or.inl ⟨by rfl, ?_⟩) ?_ ?_
                      rotate_left
                      · intro w'
                        go_simp
                        with_reducible rfl
                      rotate_left
                      · simp only [Act.put, List.setIfInBounds_toArray, List.set_cons_zero, List.set_cons_succ, i64_w, i32_w]
                        rfl
                      refine pure_ (i := 24) (N := some 87) (v := ?_) (a' := ?_) #[true, true, true, true, true, true, true, true, true, true, true, true, true, true, true, true, true, true, true, true, true, true, true, true, true, false, false, false, false, false, false, false, false, false, false, false] rfl rfl (any_of HT_.out (by kernel_rfl)) (fun _ _ _ h => h) (Or.inl ⟨by rfl, ?_⟩) ?_ ?_
                      rotate_left
                      · intro w'
                        go_simp
                        with_reducible rfl
                      rotate_left
                      · simp only [Act.put, List.setIfInBounds_toArray, List.set_cons_zero, List.set_cons_succ, i64_w, i32_w]
                        rfl
                      refine pure_ (i := 25) (N := some 88) (v := ?_) (a' := ?_) #[true, true, true, true, true, true, true, true, true, true, true, true, true, true, true, true, true, true, true, true, true, true, true, true, true, true, false, false, false, false, false, false, false, false, false, false] rfl rfl (any_of HT_.out (by kernel_rfl)) (fun _ _ _ h => h) (Or.inl ⟨by rfl, ?_⟩) ?_ ?_
                      rotate_left
                      · intro w'
                        go_simp
                        with_reducible rfl
                      rotate_left
                      · simp only [Act.put, List.setIfInBounds_toArray, List.set_cons_zero, List.set_cons_succ, i64_w, i32_w]
                        rfl
                      refine pure_ (i := 26) (N := some 89) (v := ?_) (a' := ?_) #[true, true, true, true, true, true, true, true, true, true, true, true, true, true, true, true, true, true, true, true, true, true, true, true, true, true, true, false, false, false, false, false, false, false, false, false] rfl rfl (any_of HT_.out (by kernel_rfl)) (fun _ _ _ h => h) (Or.inl ⟨by rfl, ?_⟩) ?_ ?_
                      rotate_left
                      · intro w'
                        go_simp
                        with_reducible rfl
                      rotate_left
                      · simp only [Act.put, List.setIfInBounds_toArray, List.set_cons_zero, List.set_cons_succ, i64_w, i32_w]
                        rfl
                      refine pure_ (i := 27) (N := some 90) (v := ?_) (a' := ?_) #[true, true, true, true, true, true, true, true, true, true, true, true, true, true, true, true, true, true, true, true, true, true, true, true, true, true, true, true, false, false, false, false, false, false, false, false] rfl rfl (any_of HT_.out (by kernel_rfl)) (fun _ _ _ h => h) (Or.inl ⟨by rfl, ?_⟩) ?_ ?_
                      rotate_left
                      · intro w'
                        go_simp
                        with_reducible rfl
                      rotate_left
                      · simp only [Act.put, List.setIfInBounds_toArray, List.set_cons_zero, List.set_cons_succ, i64_w, i32_w]
                        rfl
                      refine pure_ (i := 28) (N := some 91) (v := ?_) (a' := ?_) #[true, true, true, true, true, true, true, true, true, true, true, true, true, true, true, true, true, true, true, true, true, true, true, true, true, true, true, true, true, false, false, false, false, false, false, false] rfl rfl (any_of HT_.out (by kernel_rfl)) (fun _ _ _ h => h) (Or.inl ⟨by rfl, ?_⟩) ?_ ?_
                      rotate_left
                      · intro w'
                        go_simp
                        with_reducible rfl
                      rotate_left
                      · simp only [Act.put, List.setIfInBounds_toArray, List.set_cons_zero, List.set_cons_succ, i64_w, i32_w]
                        rfl
                      refine last_ (i := 29) (N := none) #[true, true, true, true, true, true, true, true, true, true, true, true, true, true, true, true, true, true, true, true, true, true, true, true, true, true, true, true, true, true, false, false, false, false, false, false] rfl rfl (one_of HT_.out (by kernel_rfl)) (by decide) (fun K hK => ?_)
                      refine skip_ (w1 := ?_) (by rfl) rfl ?_ ?_
                      rotate_left
                      · go_simp
                        rfl
                      refine hK.out _ _ ?_
                      clear hK K
                      refine pure_ (i := 30) (N := some 92) (v := ?_) (a' := ?_) #[true, true, true, true, true, true, true, true, true, true, true, true, true, true, true, true, true, true, true, true, true, true, true, true, true, true, true, true, true, true, true, false, false, false, false, false] rfl rfl (any_of HT_.out (by kernel_rfl)) (fun _ _ _ h => h) (Or.inl ⟨by rfl, ?_⟩) ?_ ?_
                      rotate_left
                      · intro w'
                        go_simp
                        with_reducible rfl
                      rotate_left
                      · simp only [Act.put, List.setIfInBounds_toArray, List.set_cons_zero, List.set_cons_succ, i64_w, i32_w]
                        rfl
                      refine last_ (i := 31) (N := none) #[true, true, true, true, true, true, true, true, true, true, true, true, true, true, true, true, true, true, true, true, true, true, true, true, true, true, true, true, true, true, true, true, false, false, false, false] rfl rfl (one_of HT_.out (by kernel_rfl)) (by decide) (fun K hK => ?_)
                      refine skip_ (w1 := ?_) (by rfl) rfl ?_ ?_
                      rotate_left
                      · go_simp
                        rfl
                      refine hK.out _ _ ?_
                      clear hK K
                      refine pure_ (i := 32) (N := some 93) (v := ?_) (a' := ?_) #[true, true, true, true, true, true, true, true, true, true, true, true, true, true, true, true, true, true, true, true, true, true, true, true, true, true, true, true, true, true, true, true, true, false, false, false] rfl rfl (any_of HT_.out (by kernel_rfl)) (fun _ _ _ h => h) (Or.inl ⟨by rfl, ?_⟩) ?_ ?_
                      rotate_left
                      · intro w'
                        go_simp
                        with_reducible rfl
                      rotate_left
                      · simp only [Act.put, List.setIfInBounds_toArray, List.set_cons_zero, List.set_cons_succ, i64_w, i32_w]
                        rfl
                      refine last_ (i := 33) (N := none) #[true, true, true, true, true, true, true, true, true, true, true, true, true, true, true, true, true, true, true, true, true, true, true, true, true, true, true, true, true, true, true, true, true, true, false, false] rfl rfl (one_of HT_.out (by kernel_rfl)) (by decide) (fun K hK => ?_)
                      refine skip_ (w1 := ?_) (by rfl) rfl ?_ ?_
                      rotate_left
                      · go_simp
                        rfl
                      refine hK.out _ _ ?_
                      clear hK K
                      refine pure_ (i := 34) (N := some 94) (v := ?_) (a' := ?_) #[true, true, true, true, true, true, true, true, true, true, true, true, true, true, true, true, true, true, true, true, true, true, true, true, true, true, true, true, true, true, true, true, true, true, true, false] rfl rfl (any_of HT_.out (by kernel_rfl)) (fun _ _ _ h => h) (Or.inl ⟨by rfl, ?_⟩) ?_ ?_
                      rotate_left
                      · intro w'
                        go_simp
                        with_reducible rfl
                      rotate_left
                      · simp only [Act.put, List.setIfInBounds_toArray, List.set_cons_zero, List.set_cons_succ, i64_w, i32_w]
                        rfl
                      refine last_ (i := 35) (N := none) #[true, true, true, true, true, true, true, true, true, true, true, true, true, true, true, true, true, true, true, true, true, true, true, true, true, true, true, true, true, true, true, true, true, true, true, true] rfl rfl (one_of HT_.out (by kernel_rfl)) (by decide) (fun K hK => ?_)
                      refine skip_ (w1 := ?_) (by rfl) rfl ?_ ?_
                      rotate_left
                      · go_simp
                        rfl
                      refine hK.out _ _ ?_
                      clear hK K
                      refine done_ (done_of HT_.out (by kernel_rfl)) ?_

                      clear e4 e8 e12 t4 t8 t12 i0 i4 i8 i12 j4 j8 j12
                      go_wp2_with fail
                      go_roundw
                      case rel => exact ⟨k + 1, by omega, by go_num, ⟨hstep.out ▸ z4.out⟩, ⟨((((hCV.out.drewN nd).far (by simp; omega) _).far (by simp; omega) _).far (by simp; omega) _).far (by simp; omega) _⟩, ⟨((((hOV.out.drewN nd).far (by simp) _).far (by simp) _).far (by simp) _).far (by simp) _⟩, ⟨below_set (below_set (below_set (below_set (pw_below_drewN hBV.out nd) (by omega)) (by omega)) (by omega)) (by omega)⟩⟩
                      case measure => simp [intOf]; omega
                    · obtain rfl : k = 4 := by omega
                      obtain ⟨V2, hV2⟩ : ∃ V, V = cols V1 4 := ⟨_, rfl⟩
                      rw [← hV2] at hA
                      have hl2 : Aside0 (V2.length = 16) := ⟨by rw [hV2, cols_length, hl1.out]⟩
                      have HV2 := Aside0.mk hV2
                      clear hV2 hlt4 hk
                      obtain ⟨wp, rfl⟩ : ∃ wp : World, wp = wr := ⟨_, rfl⟩
                      go_wp2_with fail
                      go_loopw [96] (fun i wr => ∃ k : Nat, k ≤ 4 ∧ i = .int .i64 k ∧ Aside0 (ArrIs .u32 50 wr (w.heap.size + 1) ((diags V2 k).map U)) ∧ Aside0 (ArrIs .u32 50 wr wz.heap.size (V0.map U)) ∧ Aside0 (ArrIs .u8 41 wr w.heap.size (List.replicate 64 0)) ∧ Aside0 (Below w.heap.size w wr)) (fun i _ => 4 - (intOf i).toNat)
                      case atStart => exact ⟨0, by omega, rfl, hA, hC, hO, hB⟩
                      case round =>
                        clear hA hO hB hC
                        obtain ⟨k, hk, rfl, hA, hC, hO, hB⟩ := hrel
                        by_cases hlt4 : k < 4
                        · obtain ⟨ib, hib⟩ : ∃ i, i = 4 + (k + 1) % 4 := ⟨_, rfl⟩
                          obtain ⟨ic, hic⟩ : ∃ i, i = 8 + (k + 2) % 4 := ⟨_, rfl⟩
                          obtain ⟨id, hid⟩ : ∃ i, i = 12 + (k + 3) % 4 := ⟨_, rfl⟩
                          have lb : ib < 16 := by omega
                          have lc : ic < 16 := by omega
                          have ld : id < 16 := by omega
                          replace hib := Aside0.mk hib
                          replace hic := Aside0.mk hic
                          replace hid := Aside0.mk hid
                          go_wp2_with fail
                          have Heb : Aside0 ((4 : Int) + ((k : Int) + 1) % 4 = (ib : Int)) := ⟨by rw [hib.out]; omega⟩
                          have Hec : Aside0 ((8 : Int) + ((k : Int) + 2) % 4 = (ic : Int)) := ⟨by rw [hic.out]; omega⟩
                          have Hed : Aside0 ((12 : Int) + ((k : Int) + 3) % 4 = (id : Int)) := ⟨by rw [hid.out]; omega⟩
                          simp only [Heb.out, Hec.out, Hed.out]
                          obtain ⟨Vk, hVk⟩ : ∃ V, V = diags V2 k := ⟨_, rfl⟩
                          rw [← hVk] at hA
                          have hlk : Vk.length = 16 := by rw [hVk, diags_length, hl2.out]
                          have HVk := Aside0.mk hVk
                          clear hVk
                          obtain ⟨xa, hxa⟩ : ∃ x, x = at_ Vk k := ⟨_, rfl⟩
                          obtain ⟨xb, hxb⟩ : ∃ x, x = at_ Vk ib := ⟨_, rfl⟩
                          obtain ⟨xc, hxc⟩ : ∃ x, x = at_ Vk ic := ⟨_, rfl⟩
                          obtain ⟨xd, hxd⟩ : ∃ x, x = at_ Vk id := ⟨_, rfl⟩
                          have ca := hA.out.drew.cell k (by rw [List.length_map]; omega)
                          have cb := hA.out.drew.cell ib (by rw [List.length_map]; omega)
                          have cc := hA.out.drew.cell ic (by rw [List.length_map]; omega)
                          have cd := hA.out.drew.cell id (by rw [List.length_map]; omega)
                          rw [mapU_getD _ _ (by omega), ← hxa] at ca
                          rw [mapU_getD _ _ (by omega), ← hxb] at cb
                          rw [mapU_getD _ _ (by omega), ← hxc] at cc
                          rw [mapU_getD _ _ (by omega), ← hxd] at cd
                          obtain ⟨ya, hya⟩ : ∃ y, y = (q4 Vk k ib ic id).a := ⟨_, rfl⟩
                          obtain ⟨yb, hyb⟩ : ∃ y, y = (q4 Vk k ib ic id).b := ⟨_, rfl⟩
                          obtain ⟨yc, hyc⟩ : ∃ y, y = (q4 Vk k ib ic id).c := ⟨_, rfl⟩
                          obtain ⟨yd, hyd⟩ : ∃ y, y = (q4 Vk k ib ic id).d := ⟨_, rfl⟩
                          have HQ : Aside0 (chacha_quarter.f (U xa) (U xb) (U xc) (U xd) = some (U ya, U yb, U yc, U yd)) := ⟨by rw [hya, hyb, hyc, hyd, hxa, hxb, hxc, hxd]; exact quarter_U ⟨at_ Vk k, at_ Vk ib, at_ Vk ic, at_ Vk id⟩⟩
                          have hstep : Aside0 (((((Vk.map U).set k (U ya)).set ib (U yb)).set ic (U yc)).set id (U yd) = (diags V2 (k + 1)).map U) := ⟨by rw [hya, hyb, hyc, hyd, step_map, diags, HVk.out, ← hib.out, ← hic.out, ← hid.out]⟩
                          clear hxa hxb hxc hxd hya hyb hyc hyd
                          have hl0 : k < (Vk.map U).length := by rw [List.length_map]; omega
                          have hl1' : ib < ((Vk.map U).set k (U ya)).length := by simp; omega
                          have hl2' : ic < (((Vk.map U).set k (U ya)).set ib (U yb)).length := by simp; omega
                          have hl3' : id < ((((Vk.map U).set k (U ya)).set ib (U yb)).set ic (U yc)).length := by simp; omega
                          have hL0 := Aside0.mk hl0
                          have hL1 := Aside0.mk hl1'
                          have hL2 := Aside0.mk hl2'
                          have hL3 := Aside0.mk hl3'
                          clear hl0 hl1' hl2' hl3' hlk
                          have hAV := Aside0.mk hA.out.drew
                          have hCV := Aside0.mk hC.out.drew
                          have hOV := Aside0.mk hO.out.drew
                          have hBV := Aside0.mk (below_drew hB.out)
                          clear hA hC hO hB
                          have i0 : ((k : Int) < 16) = True := eq_true (by omega)
                          have i4 : ((ib : Int) < 16) = True := eq_true (by omega)
                          have i8 : ((ic : Int) < 16) = True := eq_true (by omega)
                          have i12 : ((id : Int) < 16) = True := eq_true (by omega)
                          refine start_ (n := 30) (S := fun w' => w'.cell? ⟨w.heap.size + 1, k, none⟩ = some (.int .u32 (U xa)) ∧ w'.cell? ⟨w.heap.size + 1, ib, none⟩ = some (.int .u32 (U xb)) ∧ w'.cell? ⟨w.heap.size + 1, ic, none⟩ = some (.int .u32 (U xc)) ∧ w'.cell? ⟨w.heap.size + 1, id, none⟩ = some (.int .u32 (U xd))) (ds := [23, 25, 27, 29]) #[false, false, false, false, false, false, false, false, false, false, false, false, false, false, false, false, false, false, false, false, false, false, false, false, false, false, false, false, false, false] (by kernel_rfl) rfl rfl ⟨ca, cb, cc, cd⟩ (fun hHeld => ?_)
                          refine with_tabW bytes_.tab30 bytes_.bits30 (fun HT_ HW_ => ?_)
                          generalize wr.drew = wq at hAV hCV hOV hBV ca cb cc cd hHeld ⊢
                          refine pure_ (i := 0) (N := some 112) (v := ?_) (a' := ?_) #[true, false, false, false, false, false, false, false, false, false, false, false, false, false, false, false, false, false, false, false, false, false, false, false, false, false, false, false, false, false] rfl rfl (any_of HT_.out (by kernel_rfl)) (fun _ _ _ h => h) (Or.inl ⟨by rfl, ?_⟩) ?_ ?_
                          rotate_left
                          · intro w'
                            go_simp
                            with_reducible rfl
                          rotate_left
                          · simp only [Act.put, List.setIfInBounds_toArray, List.set_cons_zero, List.set_cons_succ, i64_w, i32_w]
                            rfl
                          refine pure_ (i := 1) (N := some 113) (v := ?_) (a' := ?_) #[true, true, false, false, false, false, false, false, false, false, false, false, false, false, false, false, false, false, false, false, false, false, false, false, false, false, false, false, false, false] rfl rfl (any_of HT_.out (by kernel_rfl)) (fun _ _ _ h => h) (Or.inl ⟨by rfl, ?_⟩) ?_ ?_
                          rotate_left
                          · intro w'
                            go_simp
                            with_reducible rfl
                          rotate_left
                          · simp only [Act.put, List.setIfInBounds_toArray, List.set_cons_zero, List.set_cons_succ, i64_w, i32_w]
                            rfl
                          refine pure_ (i := 2) (N := some 114) (v := ?_) (a' := ?_) #[true, true, true, false, false, false, false, false, false, false, false, false, false, false, false, false, false, false, false, false, false, false, false, false, false, false, false, false, false, false] rfl rfl (any_of HT_.out (by kernel_rfl)) (fun _ _ _ h => h) (Or.inl ⟨by rfl, ?_⟩) ?_ ?_
                          rotate_left
                          · intro w'
                            go_simp
                            with_reducible rfl
                          rotate_left
                          · simp only [Act.put, List.setIfInBounds_toArray, List.set_cons_zero, List.set_cons_succ, i64_w, i32_w]
                            rfl
                          refine pure_ (i := 3) (N := some 115) (v := ?_) (a' := ?_) #[true, true, true, true, false, false, false, false, false, false, false, false, false, false, false, false, false, false, false, false, false, false, false, false, false, false, false, false, false, false] rfl rfl (any_of HT_.out (by kernel_rfl)) (fun _ _ _ h => h) (Or.inl ⟨by rfl, ?_⟩) ?_ ?_
                          rotate_left
                          · intro w'
                            go_simp
                            with_reducible rfl
                          rotate_left
                          · simp only [Act.put, List.setIfInBounds_toArray, List.set_cons_zero, List.set_cons_succ, i64_w, i32_w]
                            rfl
                          refine pure_ (i := 4) (N := some 116) (v := ?_) (a' := ?_) #[true, true, true, true, true, false, false, false, false, false, false, false, false, false, false, false, false, false, false, false, false, false, false, false, false, false, false, false, false, false] rfl rfl (any_of HT_.out (by kernel_rfl)) (fun _ _ _ h => h) (Or.inl ⟨by rfl, ?_⟩) ?_ ?_
                          rotate_left
                          · intro w'
                            go_simp
                            with_reducible rfl
                          rotate_left
                          · simp only [Act.put, List.setIfInBounds_toArray, List.set_cons_zero, List.set_cons_succ, i64_w, i32_w]
                            rfl
                          refine pure_ (i := 5) (N := some 117) (v := ?_) (a' := ?_) #[true, true, true, true, true, true, false, false, false, false, false, false, false, false, false, false, false, false, false, false, false, false, false, false, false, false, false, false, false, false] rfl rfl (any_of HT_.out (by kernel_rfl)) (fun _ _ _ h => h) (Or.inl ⟨by rfl, ?_⟩) ?_ ?_
                          rotate_left
                          · intro w'
                            go_simp
                            with_reducible rfl
                          rotate_left
                          · simp only [Act.put, List.setIfInBounds_toArray, List.set_cons_zero, List.set_cons_succ, i64_w, i32_w]
                            rfl
                          refine pure_ (i := 7) (N := some 119) (v := ?_) (a' := ?_) #[true, true, true, true, true, true, false, true, false, false, false, false, false, false, false, false, false, false, false, false, false, false, false, false, false, false, false, false, false, false] rfl rfl (any_of HT_.out (by kernel_rfl)) (fun _ _ _ h => h) (Or.inl ⟨by rfl, ?_⟩) ?_ ?_
                          rotate_left
                          · intro w'
                            go_simp
                            with_reducible rfl
                          rotate_left
                          · simp only [Act.put, List.setIfInBounds_toArray, List.set_cons_zero, List.set_cons_succ, i64_w, i32_w]
                            rfl
                          refine pure_ (i := 8) (N := some 120) (v := ?_) (a' := ?_) #[true, true, true, true, true, true, false, true, true, false, false, false, false, false, false, false, false, false, false, false, false, false, false, false, false, false, false, false, false, false] rfl rfl (any_of HT_.out (by kernel_rfl)) (fun _ _ _ h => h) (Or.inl ⟨by rfl, ?_⟩) ?_ ?_
                          rotate_left
                          · intro w'
                            go_simp
                            with_reducible rfl
                          rotate_left
                          · simp only [Act.put, List.setIfInBounds_toArray, List.set_cons_zero, List.set_cons_succ, i64_w, i32_w]
                            rfl
                          refine pure_ (i := 10) (N := some 122) (v := ?_) (a' := ?_) #[true, true, true, true, true, true, false, true, true, false, true, false, false, false, false, false, false, false, false, false, false, false, false, false, false, false, false, false, false, false] rfl rfl (any_of HT_.out (by kernel_rfl)) (fun _ _ _ h => h) (Or.inl ⟨by rfl, ?_⟩) ?_ ?_
                          rotate_left
                          · intro w'
                            go_simp
                            with_reducible rfl
                          rotate_left
                          · simp only [Act.put, List.setIfInBounds_toArray, List.set_cons_zero, List.set_cons_succ, i64_w, i32_w]
                            rfl
                          refine pure_ (i := 11) (N := some 123) (v := ?_) (a' := ?_) #[true, true, true, true, true, true, false, true, true, false, true, true, false, false, false, false, false, false, false, false, false, false, false, false, false, false, false, false, false, false] rfl rfl (any_of HT_.out (by kernel_rfl)) (fun _ _ _ h => h) (Or.inl ⟨by rfl, ?_⟩) ?_ ?_
                          rotate_left
                          · intro w'
                            go_simp
                            with_reducible rfl
                          rotate_left
                          · simp only [Act.put, List.setIfInBounds_toArray, List.set_cons_zero, List.set_cons_succ, i64_w, i32_w]
                            rfl
                          refine pure_ (i := 13) (N := some 125) (v := ?_) (a' := ?_) #[true, true, true, true, true, true, false, true, true, false, true, true, false, true, false, false, false, false, false, false, false, false, false, false, false, false, false, false, false, false] rfl rfl (any_of HT_.out (by kernel_rfl)) (fun _ _ _ h => h) (Or.inl ⟨by rfl, ?_⟩) ?_ ?_
                          rotate_left
                          · intro w'
                            go_simp
                            with_reducible rfl
                          rotate_left
                          · simp only [Act.put, List.setIfInBounds_toArray, List.set_cons_zero, List.set_cons_succ, i64_w, i32_w]
                            rfl
                          refine pure_ (i := 14) (N := some 126) (v := ?_) (a' := ?_) #[true, true, true, true, true, true, false, true, true, false, true, true, false, true, true, false, false, false, false, false, false, false, false, false, false, false, false, false, false, false] rfl rfl (any_of HT_.out (by kernel_rfl)) (fun _ _ _ h => h) (Or.inl ⟨by rfl, ?_⟩) ?_ ?_
                          rotate_left
                          · intro w'
                            go_simp
                            with_reducible rfl
                          rotate_left
                          · simp only [Act.put, List.setIfInBounds_toArray, List.set_cons_zero, List.set_cons_succ, i64_w, i32_w]
                            rfl
                          refine take_ (i := 6) (N := some 118) (v := ?_) (a' := ?_) #[true, true, true, true, true, true, true, true, true, false, true, true, false, true, true, false, false, false, false, false, false, false, false, false, false, false, false, false, false, false] rfl rfl (take_ofW HT_.out HW_.out (by kernel_rfl)) (fun _ _ _ h => h) (Or.inl ⟨by rfl, ?_⟩) hHeld ?_ ?_
                          rotate_left
                          · rintro w' ⟨s0, s1, s2, s3⟩
                            go_simp
                            with_reducible rfl
                          rotate_left
                          · simp only [Act.put, List.setIfInBounds_toArray, List.set_cons_zero, List.set_cons_succ, i64_w, i32_w]
                            rfl
                          refine take_ (i := 9) (N := some 121) (v := ?_) (a' := ?_) #[true, true, true, true, true, true, true, true, true, true, true, true, false, true, true, false, false, false, false, false, false, false, false, false, false, false, false, false, false, false] rfl rfl (take_ofW HT_.out HW_.out (by kernel_rfl)) (fun _ _ _ h => h) (Or.inl ⟨by rfl, ?_⟩) hHeld ?_ ?_
                          rotate_left
                          · rintro w' ⟨s0, s1, s2, s3⟩
                            go_simp
                            with_reducible rfl
                          rotate_left
                          · simp only [Act.put, List.setIfInBounds_toArray, List.set_cons_zero, List.set_cons_succ, i64_w, i32_w]
                            rfl
                          refine take_ (i := 12) (N := some 124) (v := ?_) (a' := ?_) #[true, true, true, true, true, true, true, true, true, true, true, true, true, true, true, false, false, false, false, false, false, false, false, false, false, false, false, false, false, false] rfl rfl (take_ofW HT_.out HW_.out (by kernel_rfl)) (fun _ _ _ h => h) (Or.inl ⟨by rfl, ?_⟩) hHeld ?_ ?_
                          rotate_left
                          · rintro w' ⟨s0, s1, s2, s3⟩
                            go_simp
                            with_reducible rfl
                          rotate_left
                          · simp only [Act.put, List.setIfInBounds_toArray, List.set_cons_zero, List.set_cons_succ, i64_w, i32_w]
                            rfl
                          refine take_ (i := 15) (N := some 127) (v := ?_) (a' := ?_) #[true, true, true, true, true, true, true, true, true, true, true, true, true, true, true, true, false, false, false, false, false, false, false, false, false, false, false, false, false, false] rfl rfl (take_ofW HT_.out HW_.out (by kernel_rfl)) (fun _ _ _ h => h) (Or.inl ⟨by rfl, ?_⟩) hHeld ?_ ?_
                          rotate_left
                          · rintro w' ⟨s0, s1, s2, s3⟩
                            go_simp
                            with_reducible rfl
                          rotate_left
                          · simp only [Act.put, List.setIfInBounds_toArray, List.set_cons_zero, List.set_cons_succ, i64_w, i32_w]
                            rfl
                          refine one_ (i := 16) (N := some 128) #[true, true, true, true, true, true, true, true, true, true, true, true, true, true, true, true, true, false, false, false, false, false, false, false, false, false, false, false, false, false] rfl rfl (one_of HT_.out (by kernel_rfl)) (by decide) (fun K hK => ?_)
                          refine goes_ Try.func18 (by kernel_rfl) rfl #[.int .u32 (U xa), .int .u32 (U xb), .int .u32 (U xc), .int .u32 (U xd)] (by rfl) rfl rfl (by simp only [List.map_toArray, List.map_cons, List.map_nil]; rfl) ?_
                          with_reducible refine (chacha_quarter.calls _ _ _ _ (U ya) (U yb) (U yc) (U yd) _ HQ.out).mono ?_
                          rintro e w3 ⟨rfl, ⟨nd, rfl⟩⟩
                          refine ⟨_, rfl, ?_⟩
                          have z1 := (hAV.out.drewN nd).put (k) (U ya)
                          have z2 := z1.put (ib) (U yb)
                          have z3 := z2.put (ic) (U yc)
                          have z4 := Aside0.mk (z3.put (id) (U yd))
                          have g0 := (hAV.out.drewN nd).cell (k) hL0.out
                          have g1 := z1.cell (ib) hL1.out
                          have g2 := z2.cell (ic) hL2.out
                          have g3 := z3.cell (id) hL3.out
                          have f0 := (hAV.out.drewN nd).frozen (k)
                          have f1 := z1.frozen (ib)
                          have f2 := z2.frozen (ic)
                          have f3 := z3.frozen (id)
                          clear z1 z2 z3
                          refine hK.out _ _ ⟨ca, cb, cc, cd⟩ (fun hHeld => ?_)
                          clear hK K
                          refine norm_ (a' := ?_) ?_ ?_
                          rotate_left
                          · show Act.put _ (some 128) _ = _
                            simp only [Act.put, List.setIfInBounds_toArray, List.set_cons_zero, List.set_cons_succ, i64_w, i32_w]
                            rfl
                          refine pure_ (i := 17) (N := some 111) (v := ?_) (a' := ?_) #[true, true, true, true, true, true, true, true, true, true, true, true, true, true, true, true, true, true, false, false, false, false, false, false, false, false, false, false, false, false] rfl rfl (any_of HT_.out (by kernel_rfl)) (fun _ _ _ h => h) (Or.inl ⟨by rfl, ?_⟩) ?_ ?_
                          rotate_left
                          · intro w'
                            go_simp
                            with_reducible rfl
                          rotate_left
                          · simp only [Act.put, List.setIfInBounds_toArray, List.set_cons_zero, List.set_cons_succ, i64_w, i32_w]
                            rfl
                          refine pure_ (i := 18) (N := some 129) (v := ?_) (a' := ?_) #[true, true, true, true, true, true, true, true, true, true, true, true, true, true, true, true, true, true, true, false, false, false, false, false, false, false, false, false, false, false] rfl rfl (any_of HT_.out (by kernel_rfl)) (fun _ _ _ h => h) (Or.inl ⟨by rfl, ?_⟩) ?_ ?_
                          rotate_left
                          · intro w'
                            go_simp
                            with_reducible rfl
                          rotate_left
                          · simp only [Act.put, List.setIfInBounds_toArray, List.set_cons_zero, List.set_cons_succ, i64_w, i32_w]
                            rfl
                          refine pure_ (i := 19) (N := some 130) (v := ?_) (a' := ?_) #[true, true, true, true, true, true, true, true, true, true, true, true, true, true, true, true, true, true, true, true, false, false, false, false, false, false, false, false, false, false] rfl rfl (any_of HT_.out (by kernel_rfl)) (fun _ _ _ h => h) (Or.inl ⟨by rfl, ?_⟩) ?_ ?_
                          rotate_left
                          · intro w'
                            go_simp
                            with_reducible rfl
                          rotate_left
                          · simp only [Act.put, List.setIfInBounds_toArray, List.set_cons_zero, List.set_cons_succ, i64_w, i32_w]
                            rfl
                          refine pure_ (i := 20) (N := some 131) (v := ?_) (a' := ?_) #[true, true, true, true, true, true, true, true, true, true, true, true, true, true, true, true, true, true, true, true, true, false, false, false, false, false, false, false, false, false] rfl rfl (any_of HT_.out (by kernel_rfl)) (fun _ _ _ h => h) (Or.inl ⟨by rfl, ?_⟩) ?_ ?_
                          rotate_left
                          · intro w'
                            go_simp
                            with_reducible rfl
                          rotate_left
                          · simp only [Act.put, List.setIfInBounds_toArray, List.set_cons_zero, List.set_cons_succ, i64_w, i32_w]
                            rfl
                          refine pure_ (i := 21) (N := some 132) (v := ?_) (a' := ?_) #[true, true, true, true, true, true, true, true, true, true, true, true, true, true, true, true, true, true, true, true, true, true, false, false, false, false, false, false, false, false] rfl rfl (any_of HT_.out (by kernel_rfl)) (fun _ _ _ h => h) (Or.inl ⟨by rfl, ?_⟩) ?_ ?_
                          rotate_left
                          · intro w'
                            go_simp
                            with_reducible rfl
                          rotate_left
                          · simp only [Act.put, List.setIfInBounds_toArray, List.set_cons_zero, List.set_cons_succ, i64_w, i32_w]
                            rfl
                          refine pure_ (i := 22) (N := some 133) (v := ?_) (a' := ?_) #[true, true, true, true, true, true, true, true, true, true, true, true, true, true, true, true, true, true, true, true, true, true, true, false, false, false, false, false, false, false] rfl rfl (any_of HT_.out (by kernel_rfl)) (fun _ _ _ h => h) (Or.inl ⟨by rfl, ?_⟩) ?_ ?_
                          rotate_left
                          · intro w'
                            go_simp
                            with_reducible rfl
                          rotate_left
                          · simp only [Act.put, List.setIfInBounds_toArray, List.set_cons_zero, List.set_cons_succ, i64_w, i32_w]
                            rfl
                          refine last_ (i := 23) (N := none) #[true, true, true, true, true, true, true, true, true, true, true, true, true, true, true, true, true, true, true, true, true, true, true, true, false, false, false, false, false, false] rfl rfl (one_of HT_.out (by kernel_rfl)) (by decide) (fun K hK => ?_)
                          refine skip_ (w1 := ?_) (by rfl) rfl ?_ ?_
                          rotate_left
                          · go_simp
                            rfl
                          refine hK.out _ _ ?_
                          clear hK K
                          refine pure_ (i := 24) (N := some 134) (v := ?_) (a' := ?_) #[true, true, true, true, true, true, true, true, true, true, true, true, true, true, true, true, true, true, true, true, true, true, true, true, true, false, false, false, false, false] rfl rfl (any_of HT_.out (by kernel_rfl)) (fun _ _ _ h => h) (Or.inl ⟨by rfl, ?_⟩) ?_ ?_
                          rotate_left
                          · intro w'
                            go_simp
                            with_reducible rfl
                          rotate_left
                          · simp only [Act.put, List.setIfInBounds_toArray, List.set_cons_zero, List.set_cons_succ, i64_w, i32_w]
                            rfl
                          refine last_ (i := 25) (N := none) #[true, true, true, true, true, true, true, true, true, true, true, true, true, true, true, true, true, true, true, true, true, true, true, true, true, true, false, false, false, false] rfl rfl (one_of HT_.out (by kernel_rfl)) (by decide) (fun K hK => ?_)
                          refine skip_ (w1 := ?_) (by rfl) rfl ?_ ?_
                          rotate_left
                          · go_simp
                            rfl
                          refine hK.out _ _ ?_
                          clear hK K
                          refine pure_ (i := 26) (N := some 135) (v := ?_) (a' := ?_) #[true, true, true, true, true, true, true, true, true, true, true, true, true, true, true, true, true, true, true, true, true, true, true, true, true, true, true, false, false, false] rfl rfl (any_of HT_.out (by kernel_rfl)) (fun _ _ _ h => h) (Or.inl ⟨by rfl, ?_⟩) ?_ ?_
                          rotate_left
                          · intro w'
                            go_simp
                            with_reducible rfl
                          rotate_left
                          · simp only [Act.put, List.setIfInBounds_toArray, List.set_cons_zero, List.set_cons_succ, i64_w, i32_w]
                            rfl
                          refine last_ (i := 27) (N := none) #[true, true, true, true, true, true, true, true, true, true, true, true, true, true, true, true, true, true, true, true, true, true, true, true, true, true, true, true, false, false] rfl rfl (one_of HT_.out (by kernel_rfl)) (by decide) (fun K hK => ?_)
                          refine skip_ (w1 := ?_) (by rfl) rfl ?_ ?_
                          rotate_left
                          · go_simp
                            rfl
                          refine hK.out _ _ ?_
                          clear hK K
                          refine pure_ (i := 28) (N := some 136) (v := ?_) (a' := ?_) #[true, true, true, true, true, true, true, true, true, true, true, true, true, true, true, true, true, true, true, true, true, true, true, true, true, true, true, true, true, false] rfl rfl (any_of HT_.out (by kernel_rfl)) (fun _ _ _ h => h) (Or.inl ⟨by rfl, ?_⟩) ?_ ?_
                          rotate_left
                          · intro w'
                            go_simp
                            with_reducible rfl
                          rotate_left
                          · simp only [Act.put, List.setIfInBounds_toArray, List.set_cons_zero, List.set_cons_succ, i64_w, i32_w]
                            rfl
                          refine last_ (i := 29) (N := none) #[true, true, true, true, true, true, true, true, true, true, true, true, true, true, true, true, true, true, true, true, true, true, true, true, true, true, true, true, true, true] rfl rfl (one_of HT_.out (by kernel_rfl)) (by decide) (fun K hK => ?_)
                          refine skip_ (w1 := ?_) (by rfl) rfl ?_ ?_
                          rotate_left
                          · go_simp
                            rfl
                          refine hK.out _ _ ?_
                          clear hK K
                          refine done_ (done_of HT_.out (by kernel_rfl)) ?_

                          clear i0 i4 i8 i12
                          go_wp2_with fail
                          go_roundw
                          case rel => exact ⟨k + 1, by omega, by go_num, ⟨hstep.out ▸ z4.out⟩, ⟨((((hCV.out.drewN nd).far (by simp; omega) _).far (by simp; omega) _).far (by simp; omega) _).far (by simp; omega) _⟩, ⟨((((hOV.out.drewN nd).far (by simp) _).far (by simp) _).far (by simp) _).far (by simp) _⟩, ⟨below_set (below_set (below_set (below_set (pw_below_drewN hBV.out nd) (by omega)) (by omega)) (by omega)) (by omega)⟩⟩
                          case measure => simp [intOf]; omega

                        · obtain rfl : k = 4 := by omega
                          go_wp2_with fail
                          go_roundw
                          case rel => exact ⟨n + 1, by omega, by go_num, ⟨by have h := hA.out; rw [HV2.out, HV1.out] at h; exact h⟩, hC, hO, hB⟩
                          case measure => simp [intOf]; omega
                · obtain rfl : n = 10 := by omega
                  obtain ⟨V1, hV1⟩ : ∃ V, V = turns V0 10 := ⟨_, rfl⟩
                  rw [← hV1] at hA
                  have hl1 : Aside0 (V1.length = 16) := ⟨by rw [hV1, turns_length, hlW.out]⟩
                  have HV1 := Aside0.mk hV1
                  clear hV1
                  obtain ⟨wy, rfl⟩ : ∃ wy : World, wy = wr := ⟨_, rfl⟩
                  go_wp2_with (refine wpList_load_row rfl 50 (.tmp 7) rfl (w.heap.size + 1) rfl 50 (cellsOf .u32 (V1.map U)) (0, 0) (.array 16 37) (hA.out.alloc (.cells (cellsOf .u8 (List.replicate 64 0)) 41)) Try.underlying50 rfl (by rw [cellsOf_size, List.length_map, hl1.out]; kernel_rfl) ?_)
                  have hP := Aside0.mk (ArrIs.new wy .u8 41 (List.replicate 64 0))
                  have hyl : wz.heap.size < wy.heap.size := hC.out.lt
                  have hC := Aside0.mk (hC.out.alloc (.cells (cellsOf .u8 (List.replicate 64 0)) 41))
                  have hO := Aside0.mk (hO.out.alloc (.cells (cellsOf .u8 (List.replicate 64 0)) 41))
                  have hB := Aside0.mk (below_alloc hB.out (.cells (cellsOf .u8 (List.replicate 64 0)) 41))
                  go_loopw [140] (fun i wr => ∃ k : Nat, k ≤ 16 ∧ i = .int .i64 k ∧ Aside0 (ArrIs .u8 41 wr wy.heap.size (outL V1 V0 k)) ∧ Aside0 (ArrIs .u32 50 wr wz.heap.size (V0.map U)) ∧ Aside0 (ArrIs .u8 41 wr w.heap.size (List.replicate 64 0)) ∧ Aside0 (Below w.heap.size w wr)) (fun i _ => 16 - (intOf i).toNat)
                  case atStart => exact ⟨0, by omega, rfl, hP, hC, hO, hB⟩
                  case round =>
                    clear hP hO hB hC hA
                    obtain ⟨k, hk, rfl, hP, hC, hO, hB⟩ := hrel
                    by_cases hlt16 : k < 16
                    · have hix := fun w => index50 (V1.map U) k (by rw [List.length_map, hl1.out]; omega) (by rw [List.length_map, hl1.out]) w
                      rw [mapU_getD _ _ (by rw [hl1.out]; omega)] at hix
                      have hcv := hC.out.cell k (by rw [List.length_map, hlW.out]; omega)
                      rw [mapU_getD _ _ (by rw [hlW.out]; omega)] at hcv
                      obtain ⟨x, hx⟩ : ∃ x : Int, x = U (at_ V1 k + at_ V0 k) := ⟨_, rfl⟩
                      have hxs : Aside0 ((U (at_ V1 k) + U (at_ V0 k)) % 4294967296 = x) := ⟨by rw [hx, U_add]⟩
                      have hx0 : 0 ≤ x := by rw [hx]; exact (U_bd _).1
                      have hx1 : x ≤ 4294967295 := by rw [hx]; exact (U_bd _).2
                      replace hx := Aside0.mk hx
                      obtain ⟨u, hu⟩ : ∃ u : Int, u = U (at_ V1 k) := ⟨_, rfl⟩
                      obtain ⟨v, hv⟩ : ∃ v : Int, v = U (at_ V0 k) := ⟨_, rfl⟩
                      rw [← hu] at hix hxs
                      rw [← hv] at hcv hxs
                      clear hu hv
                      have hxs := hxs.out
                      have hpl := outL_length V1 V0 k
                      have z1 := hP.out.put (4 * k) (x % 256)
                      have z2 := z1.put (4 * k + 1) (x / 256 % 256)
                      have z3 := z2.put (4 * k + 2) (x / 65536 % 256)
                      have z4 := Aside0.mk (z3.put (4 * k + 3) (x / 16777216))
                      have g0 := hP.out.cell (4 * k) (by omega)
                      have g1 := z1.cell (4 * k + 1) (by rw [List.length_set]; omega)
                      have g2 := z2.cell (4 * k + 2) (by rw [List.length_set, List.length_set]; omega)
                      have g3 := z3.cell (4 * k + 3) (by rw [List.length_set, List.length_set, List.length_set]; omega)
                      have f0 := hP.out.frozen (4 * k)
                      have f1 := z1.frozen (4 * k + 1)
                      have f2 := z2.frozen (4 * k + 2)
                      have f3 := z3.frozen (4 * k + 3)
                      clear z1 z2 z3 hpl
                      go_wp2_with fail
                      go_roundw
                      case rel => exact ⟨k + 1, by omega, by go_num, ⟨by have h := z4.out; show ArrIs .u8 41 _ _ (put4 (outL V1 V0 k) k (U (at_ V1 k + at_ V0 k))); rw [← hx.out]; exact h⟩, ⟨(((hC.out.far (by simp; omega) _).far (by simp; omega) _).far (by simp; omega) _).far (by simp; omega) _⟩, ⟨(((hO.out.far (by simp; omega) _).far (by simp; omega) _).far (by simp; omega) _).far (by simp; omega) _⟩, ⟨below_set (below_set (below_set (below_set hB.out (by omega)) (by omega)) (by omega)) (by omega)⟩⟩
                      case measure => simp [intOf]; omega
                    · obtain rfl : k = 16 := by omega
                      have hlen : Aside0 ((outL V1 V0 16).length = 64) := ⟨outL_length _ _ _⟩
                      obtain ⟨L, hL⟩ : ∃ L, L = outL V1 V0 16 := ⟨_, rfl⟩
                      rw [← hL] at hP hlen
                      have HL := Aside0.mk hL
                      clear hL
                      go_wp2_with (first | (refine wpList_load_row rfl 41 (.tmp 17) rfl wy.heap.size rfl 41 (cellsOf .u8 L) (0, 0) (.array 64 5) hP.out Try.underlying41 rfl (by rw [cellsOf_size, hlen.out]; kernel_rfl) ?_) | (refine wpList_store_row rfl 41 (.tmp 6) (.tmp 176) rfl w.heap.size (cellsOf .u8 L) rfl rfl 41 _ hO.out (by rw [cellsOf_size, hlen.out]; kernel_rfl) (by rw [cellsOf_size, cellsOf_size, hlen.out]; rfl) (by simp [cellsOf, Value.oneCell']) ?_))
                      refine bodyPost_ret (results_single (r := .cell 6 41) rfl (.cell w.heap.size 41 (cellsOf .u8 L) (0, 0) (.array 64 5) rfl (setRow_at hO.out _) Try.underlying41 rfl (by rw [cellsOf_size, hlen.out]; kernel_rfl) .nil)) rfl ⟨?_, setRow_below hB.out (Nat.le_refl _) _⟩
                      rw [HL.out, HV1.out, HV0.out]
end Go.Proofs.Ytlipgfahjmgekaa.S
