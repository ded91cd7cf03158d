/- Plain numbers: the reference's stream is the program's, for every key, nonce, counter and text. -/
import Derived.Test.YtlipgfahjmgekaaSx6
import Derived.Test.YtlipgfahjmgekaaPlainC
namespace Go.Proofs.Ytlipgfahjmgekaa.S
open Go.RowKit Go.Proofs.YtlipgfahjmgekaaW.PrintWords Go.Proofs.YtlipgfahjmgekaaW.PrintLast
def xorL (a b : ByteArray) (m : Nat) : List Int := (List.range m).map fun i : Nat => Go.bits .xor .u8 (bt a (i : Int)) (bt b (i : Int))
theorem xorL_length (a b : ByteArray) (m : Nat) : (xorL a b m).length = m := by simp [xorL]
theorem xor_l0 (a b : ByteArray) (m : Nat) (h1 : a.size = m) (h2 : b.size = m) (hs : m < 140737488355328) (d : Nat) : ∀ (j k : Nat), m - j = d → j ≤ m → d < k →
    samphireref01_Xor.l0 k a b (xorL a b j) (j : Int) = some (strOfNums (xorL a b m), 0) := by
  induction d with
  | zero =>
    intro j k hd hj hk
    obtain ⟨k, rfl⟩ : ∃ q, k = q + 1 := ⟨k - 1, by omega⟩
    obtain rfl : j = m := by omega
    simp only [samphireref01_Xor.l0]
    rw [if_neg (by omega)]
  | succ d ih =>
    intro j k hd hj hk
    obtain ⟨k, rfl⟩ : ∃ q, k = q + 1 := ⟨k - 1, by omega⟩
    simp only [samphireref01_Xor.l0]
    rw [if_pos (by omega), if_pos (by omega), if_pos (by omega), if_pos (by rw [xorL_length]; omega), w64 _ (by omega) (by omega)]
    have h := ih (j + 1) k (by omega) (by omega) (by omega)
    rw [← h]
    congr 1
    simp [xorL, List.range_succ]
theorem xor_is (a b : ByteArray) (m k : Nat) (h1 : a.size = m) (h2 : b.size = m) (hs : m < 140737488355328) (hk : m < k) : samphireref01_Xor.f k a b = some (strOfNums (xorL a b m), 0) := by
  unfold samphireref01_Xor.f
  rw [if_pos (by omega)]
  exact xor_l0 a b m h1 h2 hs m 0 k (by omega) (by omega) hk
theorem bytesOf_str (L : List Int) (h : ∀ i, i < L.length → 0 ≤ L.getD i 0 ∧ L.getD i 0 ≤ 255) : bytesOf (strOfNums L) = L := by
  apply List.ext_getElem
  · rw [bytesOf_length, strOfNums_size]
  · intro i h1 h2
    have hr := h i h2
    have hb := bt_str L i h2 hr.1 hr.2
    have hg : (bytesOf (strOfNums L)).getD i 0 = bt (strOfNums L) (i : Int) := by
      have := rd_bytesOf (strOfNums L) (i : Int)
      rw [← this]
      rfl
    rw [hb, List.getD_eq_getElem?_getD, List.getElem?_eq_getElem h1, List.getD_eq_getElem?_getD, List.getElem?_eq_getElem h2] at hg
    exact hg
theorem blockL_range (key nonce : ByteArray) (ctr : Int) (i : Nat) (hi : i < 64) : 0 ≤ (blockL key nonce ctr).getD i 0 ∧ (blockL key nonce ctr).getD i 0 ≤ 255 := by
  unfold blockL
  rw [← outs_are]
  have hg := bigB_get (sumL (turns (words0 key nonce ctr) 10) (words0 key nonce ctr) 16) (i / 4) (i % 4) (by simp [sumL]; omega) (by omega)
  rw [show 4 * (i / 4) + i % 4 = i by omega] at hg
  exact hg.2
theorem block_bt (key nonce : ByteArray) (c : Int) (i : Nat) (hi : i < 64) : bt (strOfNums (blockL key nonce c)) (i : Int) = (blockL key nonce c).getD i 0 := by
  have hr := blockL_range key nonce c i hi
  exact bt_str _ _ (by rw [blockL_length]; exact hi) hr.1 hr.2
def outsL (key nonce : ByteArray) (ctr : Int) (s : ByteArray) (m : Nat) : List Int := (List.range m).map fun i => turned1 key nonce ctr s i
theorem outsL_length (key nonce : ByteArray) (ctr : Int) (s : ByteArray) (m : Nat) : (outsL key nonce ctr s m).length = m := by simp [outsL]
theorem outsL_all (key nonce : ByteArray) (ctr : Int) (s : ByteArray) : outsL key nonce ctr s s.size = streamL key nonce ctr s s.size := by
  unfold outsL streamL
  apply List.map_congr_left
  intro i hi
  rw [List.mem_range] at hi
  rw [if_pos hi]
theorem outsL_add (key nonce : ByteArray) (ctr : Int) (s : ByteArray) (a m : Nat) : outsL key nonce ctr s (a + m) = outsL key nonce ctr s a ++ (List.range m).map fun i => turned1 key nonce ctr s (a + i) := by
  unfold outsL
  rw [List.range_add, List.map_append, List.map_map]
  rfl
theorem ar1 (n a : Nat) (ctr : Int) (ha : a % 64 = 0) (hlt : a < n) (_hs : n ≤ 65536) (hc : ((n : Int) + 63) / 64 ≤ 4294967296 - ctr) (c0 : 0 ≤ ctr) : 0 ≤ ctr + (a : Int) / 64 ∧ ctr + (a : Int) / 64 < 4294967296 := by omega
theorem ar2 (n a : Nat) (hlt : a < n) (hs : n ≤ 65536) : ∃ m : Nat, m ≤ 64 ∧ a + m ≤ n ∧ a + m = min (a + 64) n ∧ mn 64 (wrap64 ((n : Int) - (a : Int))) = (m : Int) := by
  refine ⟨min 64 (n - a), by omega, by omega, by omega, ?_⟩
  rw [w64 _ (by omega) (by omega)]
  unfold mn
  split <;> omega
theorem refstream_l0 (key nonce : ByteArray) (ctr : Int) (s : ByteArray) (h1 : key.size = 32) (h2 : nonce.size = 12) (c0 : 0 ≤ ctr) (_c1 : ctr < 4294967296) (hs : s.size ≤ 65536) (hc : ((s.size : Int) + 63) / 64 ≤ 4294967296 - ctr) (d : Nat) :
    ∀ (a k : Nat), a % 64 = 0 → a < s.size + 64 → a + d = s.size + 64 → d + 65 < k →
    samphireref05_Stream.l0 k key nonce ctr s (outsL key nonce ctr s (min a s.size)) (a : Int) = some (strOfNums (streamL key nonce ctr s s.size), 0) := by
  induction d using Nat.strongRecOn with
  | _ d ih =>
  intro a k ha hau hd hk
  obtain ⟨k, rfl⟩ : ∃ q, k = q + 1 := ⟨k - 1, by omega⟩
  simp only [samphireref05_Stream.l0]
  by_cases hlt : a < s.size
  · rw [if_pos (by omega)]
    have hdiv : wrap64 (Int.tdiv (a : Int) 64) = (a : Int) / 64 := by rw [Int.tdiv_eq_ediv_of_nonneg (by omega)]; exact w64 _ (by omega) (by omega)
    have har := ar1 s.size a ctr ha hlt hs hc c0
    rw [hdiv, w64 (ctr + (a : Int) / 64) har.1 (Int.lt_trans har.2 (by decide))]
    have hm : maY key nonce (ctr + (a : Int) / 64) := ⟨h1, h2, har.1, har.2⟩
    clear har hc
    have hn47 : s.size ≤ 65536 := hs
    have hb : samphireref05_Block.f key nonce (ctr + (a : Int) / 64) = some (strOfNums (blockL key nonce (ctr + (a : Int) / 64)), 0) := by
      unfold samphireref05_Block.f chacha_Block.f
      rw [if_pos hm]
    rw [hb]
    simp only [Option.bind_some]
    obtain ⟨m, hm1, hm2, hm3, hmi⟩ := ar2 s.size a hlt hs
    have hmn : mn 64 (wrap64 ((s.size : Int) - (a : Int))) = (m : Int) := hmi
    clear hmi
    rw [hmn, w64 ((a : Int) + (m : Int)) (by omega) (by omega)]
    have hbs : (strOfNums (blockL key nonce (ctr + (a : Int) / 64))).size = 64 := by rw [strOfNums_size, blockL_length]
    rw [if_pos (by omega), if_pos (by omega), if_pos (by omega), if_pos (by omega), if_pos (by omega)]
    have t1 : ((a : Int) + (m : Int)).toNat = a + m := by omega
    rw [t1, Int.toNat_natCast, Int.toNat_natCast]
    rw [xor_is _ _ m k (by simp; omega) (by simp; omega) (by omega) (by omega)]
    simp only [Option.bind_some]
    have hx : xorL (s.extract a (a + m)) ((strOfNums (blockL key nonce (ctr + (a : Int) / 64))).extract 0 m) m = (List.range m).map fun i => turned1 key nonce ctr s (a + i) := by
      unfold xorL
      apply List.map_congr_left
      intro i hi
      rw [List.mem_range] at hi
      rw [bt_extract _ _ _ _ (by omega) (by omega), bt_extract _ _ _ _ (by omega) (by omega), Nat.zero_add, block_bt _ _ _ _ (by omega)]
      unfold turned1 kb
      rw [show (a + i) / 64 = a / 64 by omega, show (a + i) % 64 = i by omega, Int.natCast_ediv]
      rfl
    rw [hx, bytesOf_str]
    · rw [if_pos (by rw [outsL_length, strOfNums_size]; simp; omega), Nat.min_eq_left (by omega), ← outsL_add, w64 _ (by omega) (by omega)]
      have h := ih (d - 64) (by omega) (a + 64) k (by omega) (by omega) (by omega) (by omega)
      rw [hm3]
      exact h
    · intro i hi
      simp only [List.length_map, List.length_range] at hi
      simp only [List.getD_eq_getElem?_getD, List.getElem?_map, List.getElem?_range hi, Option.map_some, Option.getD_some]
      unfold turned1
      exact xor8_range _ _
  · rw [if_neg (by omega), Nat.min_eq_right (by omega), outsL_all]
theorem refstream (key nonce : ByteArray) (ctr : Int) (s : ByteArray) (hsz : s.size ≤ 140737488351232) (k : Nat) (hk : 140000 ≤ k) : samphireref05_Stream.f k key nonce ctr s = chacha_Stream.f key nonce ctr s := by
  have hj : ∀ b, b = true → samphireref05_Stream.j0 k key nonce ctr s b = some (⟨#[]⟩, 1) := by
    rintro b rfl
    obtain ⟨k, rfl⟩ : ∃ q, k = q + 1 := ⟨k - 1, by omega⟩
    simp only [samphireref05_Stream.j0]
    rfl
  unfold samphireref05_Stream.f
  by_cases h1 : (key.size : Int) = 32
  · rw [if_pos h1]
    by_cases h2 : (nonce.size : Int) = 12
    · rw [if_pos h2]
      by_cases h3 : ctr < 0
      · rw [if_pos h3, hj _ rfl]
        unfold chacha_Stream.f
        rw [if_neg (fun hh => by have := hh.1.2.2.1; omega)]
      · rw [if_neg h3]
        by_cases h4 : ctr > 4294967295
        · rw [if_pos h4, hj _ rfl]
          unfold chacha_Stream.f
          rw [if_neg (fun hh => by have := hh.1.2.2.2; omega)]
        · rw [if_neg h4]
          by_cases h5 : (s.size : Int) > 65536
          · rw [if_pos h5, hj _ rfl]
            unfold chacha_Stream.f
            rw [if_neg (fun hh => hh.2 (Or.inl h5))]
          · rw [if_neg h5]
            have e1 : wrap64 (Int.tdiv (wrap64 ((s.size : Int) + 63)) 64) = ((s.size : Int) + 63) / 64 := by rw [w64 ((s.size : Int) + 63) (by omega) (by omega), Int.tdiv_eq_ediv_of_nonneg (by omega)]; exact w64 _ (by omega) (by omega)
            rw [e1, w64 (4294967296 - ctr) (by omega) (by omega)]
            by_cases h6 : ((s.size : Int) + 63) / 64 > 4294967296 - ctr
            · rw [hj _ (by simpa using h6)]
              unfold chacha_Stream.f
              rw [if_neg (fun hh => hh.2 (Or.inr (by omega)))]
            · rw [decide_eq_false h6]
              have ht : ¬ tooMuch ctr s := fun hh => by unfold tooMuch at hh; omega
              rw [stream_ok key nonce ctr s ⟨by omega, by omega, by omega, by omega⟩ ht]
              obtain ⟨k, rfl⟩ : ∃ q, k = q + 1 := ⟨k - 1, by omega⟩
              simp only [samphireref05_Stream.j0]
              have h := refstream_l0 key nonce ctr s (by omega) (by omega) (by omega) (by omega) (by omega) (by omega) (s.size + 64) 0 k (by omega) (by omega) (by omega) (by omega)
              rw [Nat.zero_min] at h
              exact h
    · rw [if_neg h2, hj _ rfl]
      unfold chacha_Stream.f
      rw [if_neg (fun hh => by have := hh.1.2.1; omega)]
  · rw [if_neg h1, hj _ rfl]
    unfold chacha_Stream.f
    rw [if_neg (fun hh => by have := hh.1.1; omega)]
end Go.Proofs.Ytlipgfahjmgekaa.S
