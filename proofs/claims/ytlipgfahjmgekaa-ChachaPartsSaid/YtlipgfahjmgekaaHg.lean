/- The block of a key, a nonce and a counter, as the machine walks it: for every key, nonce and counter. -/
import Derived.Test.YtlipgfahjmgekaaHf
namespace Go.Proofs.Ytlipgfahjmgekaa.S
open Go.RowKit Go.Proofs.YtlipgfahjmgekaaW.PrintWords Go.Proofs.YtlipgfahjmgekaaW.PrintLast Go.Proofs.YtlipgfahjmgekaaW.PrintMore
attribute [local go_sem] max2_int min2_int max_two min_two max_three min_three max_four min_four
set_option linter.unusedVariables false
set_option linter.unusedSimpArgs false

def byte_ (s : ByteArray) (i : Nat) : W32 := BitVec.ofNat 32 (bt s i).toNat
theorem byte_U (s : ByteArray) (i : Nat) : bt s i % 4294967296 = U (byte_ s i) := by
  have := bt_range s i
  unfold byte_ U
  rw [BitVec.toNat_ofNat]
  omega
def w4 (s : ByteArray) (i : Nat) : W32 := ((byte_ s (i + 3) <<< 24 ||| byte_ s (i + 2) <<< 16) ||| byte_ s (i + 1) <<< 8) ||| byte_ s i
theorem small_is (s : ByteArray) (h : 4 ≤ s.size) : chacha_small.f s = some (U (w4 s 0)) := by
  unfold chacha_small.f
  rw [if_pos (by omega), if_pos (by omega), if_pos (by omega), if_pos (by omega)]
  have e0 := byte_U s 0
  have e1 := byte_U s 1
  have e2 := byte_U s 2
  have e3 := byte_U s 3
  simp only [Int.cast_ofNat_Int] at e0 e1 e2 e3
  rw [e0, e1, e2, e3]
  have f1 := U_shl (byte_ s 1) 8
  have f2 := U_shl (byte_ s 2) 16
  have f3 := U_shl (byte_ s 3) 24
  simp only [show (2 : Int) ^ 8 = 256 from rfl, show (2 : Int) ^ 16 = 65536 from rfl, show (2 : Int) ^ 24 = 16777216 from rfl] at f1 f2 f3
  rw [f1, f2, f3, U_or32, U_or32, U_or32]
  rfl
theorem bt_nat (s : ByteArray) (i : Nat) (h : i < s.size) : bt s (i : Int) = (s[i].toNat : Int) := by
  unfold bt
  simp [h]
theorem bt_extract (s : ByteArray) (a b i : Nat) (h : a + i < b) (hb : b ≤ s.size) : bt (s.extract a b) (i : Int) = bt s ((a + i : Nat) : Int) := by
  rw [bt_nat _ _ (by simp; omega), bt_nat _ _ (by omega)]
  have e : (s.extract a b)[i]'(by simp; omega) = s[a + i]'(by omega) := by simp [ByteArray.getElem_extract]
  rw [e]
theorem w4_extract (s : ByteArray) (a b : Nat) (h : a + 4 ≤ b) (hb : b ≤ s.size) : w4 (s.extract a b) 0 = w4 s a := by
  unfold w4 byte_
  rw [bt_extract s a b 3 (by omega) hb, bt_extract s a b 2 (by omega) hb, bt_extract s a b 1 (by omega) hb, bt_extract s a b 0 (by omega) hb]
  rfl
def headS : ByteArray := ⟨#[101, 120, 112, 97, 110, 100, 32, 51, 50, 45, 98, 121, 116, 101, 32, 107]⟩
def words0 (key nonce : ByteArray) (ctr : Int) : List W32 := firstW (fun k => w4 headS (4 * k)) (fun k => w4 key (4 * k)) (fun k => w4 nonce (4 * k)) (BitVec.ofInt 32 ctr)
def blockL (key nonce : ByteArray) (ctr : Int) : List Int := outL (turns (words0 key nonce ctr) 10) (words0 key nonce ctr) 16
theorem blockL_length (key nonce : ByteArray) (ctr : Int) : (blockL key nonce ctr).length = 64 := outL_length _ _ _
theorem chacha_bytes.calls (key nonce : ByteArray) (ctr : Int) (w : World) (hkey : key.size = 32) (hnonce : nonce.size = 12) (c0 : 0 ≤ ctr) (c1 : ctr < 4294967296) :
    Calls Try.prog 21 #[.string key, .string nonce, .int .i64 ctr] w fun e w' => e = .returned (.agg (cellsOf .u8 (blockL key nonce ctr))) ∧ Below w.heap.size w w' := by
  refine bytes21 key nonce ctr w (fun k => w4 headS (4 * k)) (fun k => w4 key (4 * k)) (fun k => w4 nonce (4 * k)) ⟨hkey⟩ ⟨hnonce⟩ c0 c1 ⟨fun k hk => ?_⟩ ⟨fun k hk => ?_⟩ ⟨fun k hk => ?_⟩
  · have hs : headS.size = 16 := rfl
    rw [small_is _ (by show 4 ≤ (headS.extract (4 * k) 16).size; simp; omega)]
    rw [show (⟨#[101, 120, 112, 97, 110, 100, 32, 51, 50, 45, 98, 121, 116, 101, 32, 107]⟩ : ByteArray) = headS from rfl, w4_extract _ _ _ (by omega) (by omega)]
  · rw [small_is _ (by simp; omega), w4_extract _ _ _ (by omega) (by omega)]
  · rw [small_is _ (by simp; omega), w4_extract _ _ _ (by omega) (by omega)]
def maY (key nonce : ByteArray) (ctr : Int) : Prop := key.size = 32 ∧ nonce.size = 12 ∧ 0 ≤ ctr ∧ ctr < 4294967296
instance (key nonce : ByteArray) (ctr : Int) : Decidable (maY key nonce ctr) := by unfold maY; infer_instance
theorem may_is (key nonce : ByteArray) (ctr : Int) : chacha_may.f key nonce ctr = some (decide (maY key nonce ctr)) := by
  unfold chacha_may.f maY
  by_cases h1 : key.size = 32
  · rw [if_pos (by omega)]
    by_cases h2 : nonce.size = 12
    · rw [if_pos (by omega)]
      by_cases h3 : 0 ≤ ctr
      · rw [if_pos (by omega)]; simp [h1, h2, h3]
      · rw [if_neg (by omega)]; simp [h3]
    · rw [if_neg (by omega)]; simp [h2]
  · rw [if_neg (by omega)]; simp [h1]
theorem conv41 (L : List Int) (hL : L.length = 64) (W : World) (g : Nat) (h : ArrIs .u8 41 W g L) : (convert 33 9 (.slice (some ⟨g, 0, none⟩) 64 64)).run Try.prog W = .ok (.string (strOfNums L)) W := by
  refine run_convert_bytes_arg W 33 5 Try.underlying33 Try.underlying5 g 0 64 64 L hL (fun i hi => ?_) 9 Try.underlying9
  rw [Nat.zero_add]
  exact h.cell i (by omega)
def chacha_Block.f (a0 a1 : ByteArray) (a2 : Int) : Option (ByteArray × Int) := if maY a0 a1 a2 then some (strOfNums (blockL a0 a1 a2), 0) else some (⟨#[]⟩, 1)
set_option maxHeartbeats 8000000 in
set_option maxRecDepth 100000 in
theorem block_no (a0 a1 : ByteArray) (a2 : Int) (w : World) (h : chacha_may.f a0 a1 a2 = some false) :
    Calls Try.prog 13 #[.string a0, .string a1, .int .i64 a2] w fun e w' => e = .returned (.tuple #[.string ⟨#[]⟩, .int .i64 1]) ∧ Below w.heap.size w w' := by
  have A := Aside0.mk h
  clear h
  go_enter Try.func13, Try.ntmps13
  go_wp2_with (go_at_call 20; refine (chacha_may.calls _ _ _ false _ A.out).mono ?_; rintro e w' ⟨rfl, ⟨nd, rfl⟩⟩)
  go_ret2
  exact ⟨rfl, pw_below_drewN (Below.refl _ _) _⟩
set_option maxHeartbeats 8000000 in
set_option maxRecDepth 100000 in
theorem block_yes (a0 a1 : ByteArray) (a2 : Int) (w : World) (L : List Int) (hL : Aside0 (L.length = 64)) (h : chacha_may.f a0 a1 a2 = some true)
    (hb : ∀ w, Calls Try.prog 21 #[.string a0, .string a1, .int .i64 a2] w fun e w' => e = .returned (.agg (cellsOf .u8 L)) ∧ Below w.heap.size w w') :
    Calls Try.prog 13 #[.string a0, .string a1, .int .i64 a2] w fun e w' => e = .returned (.tuple #[.string (strOfNums L), .int .i64 0]) ∧ Below w.heap.size w w' := by
  have A := Aside0.mk h
  clear h
  go_enter Try.func13, Try.ntmps13
  go_wp2_with (first | (go_at_call 20; refine (chacha_may.calls _ _ _ true _ A.out).mono ?_; rintro e w' ⟨rfl, ⟨nd, rfl⟩⟩) | (go_at_call 21; refine (hb _).mono ?_; rintro e w1 ⟨rfl, hb1⟩) | (refine wpList_store_row rfl 41 (.tmp 8) (.tmp 17) rfl w1.heap.size (cellsOf .u8 L) rfl rfl 41 _ (heap_alloc_new w1 _) (by rw [cellsOf_size, hL.out]; kernel_rfl) (by rw [cellsOf_size, hL.out]; rfl) (by simp [cellsOf, Value.oneCell']) ?_; have hcv := fun old : Array Value => conv41 L hL.out ((w1.alloc (.cells old 41)).setRow w1.heap.size (cellsOf .u8 L)) w1.heap.size (setRow_at (heap_alloc_new w1 (.cells old 41)) (cellsOf .u8 L))))
  go_ret2
  exact ⟨rfl, setRow_below (below_alloc (below_then (pw_below_drewN (Below.refl _ _) _) (by simp) hb1) _) (by have := hb1.size; simpa using this) _⟩
theorem chacha_Block.calls (a0 a1 : ByteArray) (a2 : Int) (r1 : ByteArray) (r2 : Int) (w : World) (h : chacha_Block.f a0 a1 a2 = some (r1, r2)) :
    Calls Try.prog 13 #[.string a0, .string a1, .int .i64 a2] w fun e w' => e = .returned (.tuple #[.string r1, .int .i64 r2]) ∧ Below w.heap.size w w' := by
  unfold chacha_Block.f at h
  by_cases hm : maY a0 a1 a2
  · rw [if_pos hm] at h
    simp only [Option.some.injEq, Prod.mk.injEq] at h
    obtain ⟨rfl, rfl⟩ := h
    exact block_yes a0 a1 a2 w _ ⟨blockL_length _ _ _⟩ (by rw [may_is]; simp [hm]) (fun w => chacha_bytes.calls a0 a1 a2 w hm.1 hm.2.1 hm.2.2.1 hm.2.2.2)
  · rw [if_neg hm] at h
    simp only [Option.some.injEq, Prod.mk.injEq] at h
    obtain ⟨rfl, rfl⟩ := h
    exact block_no a0 a1 a2 w (by rw [may_is]; simp [hm])
end Go.Proofs.Ytlipgfahjmgekaa.S
