/- A map of texts to bools that the call makes, as the set of the texts that are true in it. -/
import Derived.Test.YtlipgfahjmgekabDoorProg
import Derived.WalkKit
import Derived.Maps.OwnOps
import Derived.Maps.Views
namespace Go.Proofs.YtlipgfahjmgekabDoor.S
open Go.RowKit Go.Maps Go.WideMaps
theorem law9 : Keyed Tryd.prog 9 := string_keyed Tryd.underlying9
theorem zero4 (w : World) : (zeroValue 4).run Tryd.prog w = .ok (.bool false) w := by kernel_rfl
theorem plainElem_bool_inv {H : Type} {P : Program} {e : TypeId} (he : P.underlying e = some .bool) {v : Value} {z : DataW H × List MemPlace} (h : plainElem P e v = some z) : ∃ x, v = .bool x ∧ z = (.lit (.bool x), []) := by
  unfold plainElem at h
  split at h
  · cases h; exact ⟨_, rfl, rfl⟩
  · rename_i h1; rw [he] at h1; cases h1
  · rename_i h1; rw [he] at h1; cases h1
  · cases h
def inB (L : List ByteArray) (s : ByteArray) : Bool := L.any (fun t => t.data.toList == s.data.toList)
/-- The texts L are true in the map of block B, all others false; at most n entries. -/
def Taken (w : World) (B n : Nat) (L : List ByteArray) : Prop :=
  ∃ D : DataW Unit, w.ownsMap Tryd.prog 9 (plainElem Tryd.prog 4) B n D ∧ IsMap D ∧ ∀ s : ByteArray, D.atKey (.string s.data.toList) (.lit (.bool false)) = .lit (.bool (inB L s))
theorem Taken.made (w : World) : Taken (w.alloc (.map #[] 0)) w.heap.size 0 [] :=
  ⟨_, World.ownsMap_made _ _ _ _, ⟨[], rfl⟩, fun _ => rfl⟩
theorem Taken.kept {w w' : World} {B n : Nat} {L : List ByteArray} {row : Option Nat} (h : Taken w B n L) (hg : w.grownBy w' row) (hne : some B ≠ row) : Taken w' B n L := by
  obtain ⟨D, h1, h2⟩ := h
  exact ⟨D, h1.kept hg hne, h2⟩
theorem Taken.lt {w : World} {B n : Nat} {L : List ByteArray} (h : Taken w B n L) : B < w.heap.size := by
  obtain ⟨D, h1, _⟩ := h
  exact h1.lt
theorem Taken.look {w : World} {B n : Nat} {L : List ByteArray} (h : Taken w B n L) (s : ByteArray) (hs : s.size ≤ maxLen) :
    (Instr.lookup 39 (.map (some B)) (.string s) false).run Tryd.prog w = .ok (.bool (inB L s)) w := by
  obtain ⟨D, h1, _, h3⟩ := h
  obtain ⟨v, ps, hrun, hv⟩ := h1.lookup law9 Tryd.underlying39 (zero4 w) (plainElem_bool Tryd.underlying4 false) (keyOf_string_mk Tryd.underlying9 hs)
  obtain ⟨x, rfl, hx⟩ := plainElem_bool_inv Tryd.underlying4 hv
  have e := h3 s
  simp only [Prod.mk.injEq] at hx
  rw [hx.1] at e
  cases e
  exact hrun
theorem Taken.store {w : World} {B n : Nat} {L : List ByteArray} (h : Taken w B n L) (s : ByteArray) (hs : s.size ≤ maxLen) (hn : n < maxLen) :
    ∃ w', (Instr.mapUpdate 39 (.map (some B)) (.string s) (.bool true)).run Tryd.prog w = .ok () w' ∧ Taken w' B (n + 1) (L ++ [s]) ∧ w.grownBy w' (some B) := by
  obtain ⟨D, h1, h2, h3⟩ := h
  obtain ⟨w', hrun, h1', hg⟩ := h1.update law9 Tryd.underlying39 hn (keyOf_string_mk Tryd.underlying9 hs) (plainElem_bool Tryd.underlying4 true)
  refine ⟨w', hrun, ⟨_, h1', ?_, fun t => ?_⟩, hg⟩
  · obtain ⟨es, rfl⟩ := h2
    exact ⟨_, rfl⟩
  · by_cases he : s.data.toList = t.data.toList
    · rw [← he, atKey_put_same h2 (by constructor)]
      have : inB (L ++ [s]) t = true := by
        unfold inB
        rw [List.any_append]
        simp [Array.toList_inj.1 he]
      rw [this]
    · rw [atKey_put_other (fun hh => he (Lit.string.inj hh).symm), h3 t]
      have : inB (L ++ [s]) t = inB L t := by
        unfold inB
        rw [List.any_append, List.any_cons, List.any_nil, Bool.or_false, (beq_eq_false_iff_ne.mpr he : (s.data.toList == t.data.toList) = false), Bool.or_false]
      rw [this]
end Go.Proofs.YtlipgfahjmgekabDoor.S
