/- Arrays of whole numbers in a block of the call's own: what is read, what is stored. No condition. -/
import Derived.Test.YtlipgfahjmgekaaWWords
import Derived.Laws.Tables
namespace Go.Proofs.Ytlipgfahjmgekaa.S
open Go.RowKit Go.Proofs.YtlipgfahjmgekaaW.PrintWords
def cellsOf (k : IntKind) (L : List Int) : Array Value := (L.map (Value.int k)).toArray
theorem cellsOf_size (k : IntKind) (L : List Int) : (cellsOf k L).size = L.length := by simp [cellsOf]
def ArrIs (k : IntKind) (t : Nat) (W : World) (g : Nat) (L : List Int) : Prop := W.heap[g]? = some (.cells (cellsOf k L) t (0, 0))
section
variable {k : IntKind} {t : Nat} {W W1 : World} {g : Nat} {L : List Int}
theorem ArrIs.lt (h : ArrIs k t W g L) : g < W.heap.size := (Array.getElem?_eq_some_iff.1 h).1
theorem ArrIs.cell (h : ArrIs k t W g L) (i : Nat) (hi : i < L.length) : W.cell? ⟨g, i, none⟩ = some (.int k (L.getD i 0)) := by
  rw [blk_cell h]
  simp [cellsOf, hi]
theorem ArrIs.cellI (h : ArrIs k t W g L) (i : Int) (h0 : 0 ≤ i) (hi : i < L.length) : W.cell? ⟨g, i.toNat, none⟩ = some (.int k (rd L i)) := h.cell i.toNat (by omega)
theorem ArrIs.frozen (h : ArrIs k t W g L) (i : Nat) : W.frozen? ⟨g, i, none⟩ = false := blk_frozen h i
theorem ArrIs.put (h : ArrIs k t W g L) (i : Nat) (v : Int) : ArrIs k t (W.setCell ⟨g, i, none⟩ (.int k v)) g (L.set i v) := by
  have := blk_set h i (.int k v)
  unfold ArrIs
  rw [this]
  congr 2
  simp [cellsOf, List.map_set]
theorem ArrIs.far (h : ArrIs k t W g L) {p : Addr} (hp : g ≠ p.block) (u : Value) : ArrIs k t (W.setCell p u) g L := blk_far h hp u
theorem ArrIs.below (h : ArrIs k t W g L) (hb : Below W.heap.size W W1) : ArrIs k t W1 g L := (hb.block g h.lt).trans h
theorem ArrIs.drewN (h : ArrIs k t W g L) (n : Nat) : ArrIs k t (W.drewN n) g L := h
theorem ArrIs.drew (h : ArrIs k t W g L) : ArrIs k t W.drew g L := h
theorem ArrIs.alloc (h : ArrIs k t W g L) (o : Obj) : ArrIs k t (W.alloc o) g L := h.below (below_alloc (Below.refl _ _) o)
theorem ArrIs.new (W : World) (k : IntKind) (t : Nat) (L : List Int) : ArrIs k t (W.alloc (.cells (cellsOf k L) t)) W.heap.size L := heap_alloc_new W _
theorem ArrIs.ne {k' : IntKind} {t' : Nat} {g' : Nat} {L' : List Int} (h : ArrIs k t W g L) (h' : ArrIs k' t' W g' L') (ht : t ≠ t') : g ≠ g' := by
  rintro rfl
  have := h.symm.trans h'
  injection this with h1
  injection h1 with _ h2
  exact ht h2
theorem setRow_heap (W : World) (g : Nat) (cs : Array Value) (i : Nat) (h : i ≠ g) : (W.setRow g cs).heap[i]? = W.heap[i]? := by
  show (W.heap.modify g _)[i]? = _
  rw [Array.getElem?_modify, if_neg (fun he => h he.symm)]
theorem setRow_at {old : Array Value} (hg : W.heap[g]? = some (.cells old t (0, 0))) (cs : Array Value) : (W.setRow g cs).heap[g]? = some (.cells cs t (0, 0)) := by
  show (W.heap.modify g _)[g]? = _
  rw [Array.getElem?_modify, if_pos rfl, hg]
  rfl
theorem setRow_size (W : World) (g : Nat) (cs : Array Value) : (W.setRow g cs).heap.size = W.heap.size := by
  show (W.heap.modify g _).size = _
  simp
theorem setRow_below {w : World} (hb : Below w.heap.size w W) (hg : w.heap.size ≤ g) (cs : Array Value) : Below w.heap.size w (W.setRow g cs) :=
  ⟨hb.os, hb.tape, hb.output, by rw [setRow_size]; exact hb.size, fun i hi => (setRow_heap W g cs i (by omega)).trans (hb.block i hi)⟩
end
/-- n places of L from off on, told by f. -/
def fill {α : Type} (L : List α) (off : Nat) (f : Nat → α) : Nat → List α
  | 0 => L
  | n + 1 => (fill L off f n).set (off + n) (f n)
theorem fill_length {α : Type} (L : List α) (off : Nat) (f : Nat → α) : ∀ n, (fill L off f n).length = L.length
  | 0 => rfl
  | n + 1 => by rw [fill, List.length_set, fill_length L off f n]
end Go.Proofs.Ytlipgfahjmgekaa.S
