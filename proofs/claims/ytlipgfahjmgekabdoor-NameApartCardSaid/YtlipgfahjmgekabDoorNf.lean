/- name.Fold, as the machine walks it: every text. -/
import Derived.Test.YtlipgfahjmgekabDoorSL1
import Derived.Laws.IdiomStrings
import Derived.LoopTactic
namespace Go.Proofs.YtlipgfahjmgekabDoor.S
open Go.RowKit Go.Proofs.YtlipgfahjmgekabDoorW.PrintWords Go.Proofs.YtlipgfahjmgekabDoorW.PrintLast Go.Proofs.YtlipgfahjmgekabDoorW.PrintMore
set_option linter.unusedVariables false
set_option linter.unusedSimpArgs false
/-- Bytes at the head of a block that may bear a mark behind its end. -/
def BytesAt (W : World) (g : Nat) (L : List Int) : Prop := ∃ (cs : Array Value) (m : Nat), W.heap[g]? = some (.cells cs 5 (m, m + 1)) ∧ cs.size ≤ m ∧ L.length ≤ cs.size ∧ ∀ i, i < L.length → cs[i]? = some (.int .u8 (L.getD i 0))
theorem BytesAt.lt {W : World} {g : Nat} {L : List Int} (h : BytesAt W g L) : g < W.heap.size := by
  obtain ⟨cs, m, h1, _⟩ := h
  exact (Array.getElem?_eq_some_iff.1 h1).1
theorem BytesAt.cell {W : World} {g : Nat} {L : List Int} (h : BytesAt W g L) (i : Nat) (hi : i < L.length) : W.cell? ⟨g, i, none⟩ = some (.int .u8 (L.getD i 0)) := by
  obtain ⟨cs, m, h1, _, _, h4⟩ := h
  rw [cell_of_row W g i cs 5 _ h1]
  exact h4 i hi
theorem BytesAt.frozen {W : World} {g : Nat} {L : List Int} (h : BytesAt W g L) (i : Nat) (hi : i < L.length) : W.frozen? ⟨g, i, none⟩ = false := by
  obtain ⟨cs, m, h1, h2, h3, _⟩ := h
  simp [World.frozen?, h1]
  omega
theorem BytesAt.put {W : World} {g : Nat} {L : List Int} (h : BytesAt W g L) (i : Nat) (v : Int) : BytesAt (W.setCell ⟨g, i, none⟩ (.int .u8 v)) g (L.set i v) := by
  obtain ⟨cs, m, h1, h2, h3, h4⟩ := h
  refine ⟨cs.setIfInBounds i (.int .u8 v), m, ?_, by simpa using h2, by simpa using h3, fun j hj => ?_⟩
  · show (W.heap.modify g _)[g]? = _
    rw [Array.getElem?_modify, if_pos rfl, h1]
    rfl
  · rw [List.length_set] at hj
    rw [Array.getElem?_setIfInBounds]
    by_cases he : i = j
    · subst he
      rw [if_pos rfl, if_pos (by omega)]
      simp [hj]
    · rw [if_neg he, h4 j hj]
      simp [List.getElem?_set, he]
theorem BytesAt.below {W W1 : World} {g : Nat} {L : List Int} (h : BytesAt W g L) (hb : Below W.heap.size W W1) : BytesAt W1 g L := by
  have hl := h.lt
  obtain ⟨cs, m, h1, h2⟩ := h
  exact ⟨cs, m, (hb.block g hl).trans h1, h2⟩
theorem BytesAt.far {W : World} {g : Nat} {L : List Int} (h : BytesAt W g L) {p : Addr} (hp : g ≠ p.block) (u : Value) : BytesAt (W.setCell p u) g L := by
  obtain ⟨cs, m, h1, h2⟩ := h
  exact ⟨cs, m, (Below.heap_setCell W p u g hp).trans h1, h2⟩
theorem BytesAt.new (W : World) (s : ByteArray) (c : Nat) : BytesAt (W.alloc (.cells (bytesRow s c) 5 ((bytesRow s c).size, (bytesRow s c).size + 1))) W.heap.size (bytesOf s) := by
  have hsz : s.size ≤ (bytesRow s c).size := by simp [bytesRow]
  have hl : (bytesOf s).length = s.size := bytesOf_length s
  refine ⟨_, _, heap_alloc_new W _, Nat.le_refl _, by omega, fun i hi => ?_⟩
  have hd : s.data.size = s.size := rfl
  rw [bytesRow_at s c i (by omega)]
  simp [bytesOf, hd, show i < s.size by omega]
/-- A small letter in place of a great one. -/
def fd (c : Int) : Int := if 65 ≤ c ∧ c ≤ 90 then c + 32 else c
/-- The text, its first m bytes folded. -/
def foldL (s : ByteArray) (m : Nat) : List Int := (List.range s.size).map fun i : Nat => if i < m then fd (bt s (i : Int)) else bt s (i : Int)
theorem foldL_length (s : ByteArray) (m : Nat) : (foldL s m).length = s.size := by simp [foldL]
theorem foldL_zero (s : ByteArray) : foldL s 0 = bytesOf s := by
  apply List.ext_getElem
  · rw [foldL_length, bytesOf_length]
  · intro i h1 h2
    rw [foldL_length] at h1
    have hd : s.data.size = s.size := rfl
    simp [foldL, bytesOf, bt, h1]
    rfl
theorem foldL_at (s : ByteArray) (m i : Nat) (h : i < s.size) (hm : m ≤ i) : (foldL s m).getD i 0 = bt s (i : Int) := by
  simp [foldL, h]
  omega
theorem foldL_put (s : ByteArray) (m : Nat) (h : m < s.size) : (foldL s m).set m (fd (bt s (m : Int))) = foldL s (m + 1) := by
  apply List.ext_getElem
  · simp [foldL]
  · intro i h1 h2
    rw [List.getElem_set]
    simp only [foldL, List.getElem_map, List.getElem_range]
    by_cases he : m = i
    · subst he
      simp
    · rw [if_neg he]
      by_cases hl : i < m
      · rw [if_pos hl, if_pos (by omega)]
      · rw [if_neg hl, if_neg (by omega)]
theorem foldL_same (s : ByteArray) (m : Nat) (h : m < s.size) (hf : fd (bt s (m : Int)) = bt s (m : Int)) : foldL s m = foldL s (m + 1) := by
  rw [← foldL_put s m h, hf, ← foldL_at s m m h (Nat.le_refl _)]
  apply List.ext_getElem
  · simp
  · intro i h1 h2
    rw [List.getElem_set]
    by_cases he : m = i
    · subst he
      simp [List.getD_eq_getElem?_getD, List.getElem?_eq_getElem h1]
    · rw [if_neg he]
def name_Fold.f (s : ByteArray) : Option ByteArray := if s.size < 140737488355328 then some (strOfNums (foldL s s.size)) else none
set_option maxHeartbeats 8000000 in
set_option maxRecDepth 100000 in
theorem name_Fold.calls (s : ByteArray) (r : ByteArray) (w : World) (h : name_Fold.f s = some r) :
    Calls Tryd.prog 16 #[.string s] w fun e w' => e = .returned (.string r) ∧ Below w.heap.size w w' := by
  unfold name_Fold.f at h
  split at h
  case isFalse => cases h
  rename_i hs
  obtain rfl := Option.some.inj h
  clear h
  have hconv := fun (w : World) => run_bytes_of_string (P := Tryd.prog) w 9 38 5 s Tryd.underlying9 Tryd.underlying38 Tryd.underlying5
  go_enter Tryd.func16, Tryd.ntmps16
  go_wp2
  have hP : Aside0 (BytesAt ((w.drew).alloc (.cells (bytesRow s (grownCap w s.size 0 5)) 5 ((bytesRow s (grownCap w s.size 0 5)).size, (bytesRow s (grownCap w s.size 0 5)).size + 1))) w.heap.size (foldL s 0)) := ⟨by rw [foldL_zero]; exact BytesAt.new (w.drew) s _⟩
  have hB : Aside0 (Below w.heap.size w ((w.drew).alloc (.cells (bytesRow s (grownCap w s.size 0 5)) 5 ((bytesRow s (grownCap w s.size 0 5)).size, (bytesRow s (grownCap w s.size 0 5)).size + 1)))) := ⟨below_alloc (below_drew (Below.refl _ _)) _⟩
  clear hconv
  go_loopw [10] (fun i wr => ∃ k : Nat, k ≤ s.size ∧ i = .int .i64 k ∧ Aside0 (BytesAt wr w.heap.size (foldL s k)) ∧ Aside0 (Below w.heap.size w wr)) (fun i _ => s.size - (intOf i).toNat)
  case atStart => exact ⟨0, by omega, rfl, hP, hB⟩
  case round =>
    clear hP hB
    obtain ⟨k, hk, rfl, hP, hB⟩ := hrel
    by_cases hlt : k < s.size
    · have hPl := foldL_length s k
      have co := hP.out.cell k (by omega)
      have f0 := hP.out.frozen k (by omega)
      rw [foldL_at _ _ _ (by omega) (by omega)] at co
      obtain ⟨xb, hxb⟩ : ∃ x, x = bt s (k : Int) := ⟨_, rfl⟩
      rw [← hxb] at co
      have hr : 0 ≤ xb ∧ xb ≤ 255 := by rw [hxb]; exact bt_range s _
      by_cases hf : 65 ≤ xb ∧ xb ≤ 90
      · have hput : Aside0 ((foldL s k).set k (xb + 32) = foldL s (k + 1)) := ⟨by rw [← foldL_put s k hlt, ← hxb]; unfold fd; rw [if_pos hf]⟩
        have z1 := Aside0.mk (hP.out.put k (xb + 32))
        have e1 : IntKind.u8.wrap (xb + 32) = xb + 32 := by rw [IntKind.wrap_u8]; omega
        have c1 : decide (65 ≤ xb) = true := decide_eq_true hf.1
        have c2 : decide (xb ≤ 90) = true := decide_eq_true hf.2
        clear hxb hPl hr hf
        go_wp2
        go_roundw
        case rel => exact ⟨k + 1, by omega, by go_num, ⟨by have h := z1.out; rw [hput.out] at h; exact h⟩, ⟨below_set hB.out (Nat.le_refl _)⟩⟩
        case measure => simp [intOf]; omega
      · have hsame : Aside0 (foldL s k = foldL s (k + 1)) := ⟨foldL_same s k hlt (by rw [← hxb]; unfold fd; rw [if_neg hf])⟩
        have hP1 : Aside0 (BytesAt wr w.heap.size (foldL s (k + 1))) := ⟨by rw [← hsame.out]; exact hP.out⟩
        by_cases hc : 65 ≤ xb
        · have c1 : decide (65 ≤ xb) = true := decide_eq_true hc
          have c2 : decide (xb ≤ 90) = false := decide_eq_false (by omega)
          clear hxb hPl hr hf hc
          go_wp2
          go_roundw
          case rel => exact ⟨k + 1, by omega, by go_num, hP1, hB⟩
          case measure => simp [intOf]; omega
        · have c1 : decide (65 ≤ xb) = false := decide_eq_false hc
          clear hxb hPl hr hf hc
          go_wp2
          go_roundw
          case rel => exact ⟨k + 1, by omega, by go_num, hP1, hB⟩
          case measure => simp [intOf]; omega
    · obtain rfl : k = s.size := by omega
      have hcv := run_convert_bytes_arg (P := Tryd.prog) wr 38 5 Tryd.underlying38 Tryd.underlying5 w.heap.size 0 s.size (grownCap w s.size 0 5) (foldL s s.size) (foldL_length _ _) (fun i hi => by rw [Nat.zero_add]; exact hP.out.cell i (by rw [foldL_length]; exact hi)) 9 Tryd.underlying9
      go_wp2
      go_ret
      exact ⟨rfl, hB.out⟩
end Go.Proofs.YtlipgfahjmgekabDoor.S
