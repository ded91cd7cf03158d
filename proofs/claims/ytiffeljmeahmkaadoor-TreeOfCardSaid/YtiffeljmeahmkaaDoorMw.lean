/- awake, the laws' own smallest case, as the machine walks it. -/
import Derived.Test.YtiffeljmeahmkaaDoorMv
namespace Go.Proofs.YtiffeljmeahmkaaDoor.S
open Go.RowKit Go.Proofs.YtiffeljmeahmkaaDoorW.PrintWords Go.Proofs.YtiffeljmeahmkaaDoorW.PrintLast Go.Proofs.YtiffeljmeahmkaaDoorW.PrintMore
set_option linter.unusedVariables false
set_option linter.unusedSimpArgs false
abbrev marksMw_0 : Array Bool := #[false, false, false, false, false, false, false, false, false, false, false, false, false, false, false, false, false, false, false, false, false, false, false, false, false, false, false, false, false, false, false, false, false, false, false, false, false, false, false, false, false, false, false, false, false, false, false, false, false, false]
abbrev marksMw_1 : Array Bool := #[true, false, false, false, false, false, false, false, false, false, false, false, false, false, false, false, false, false, false, false, false, false, false, false, false, false, false, false, false, false, false, false, false, false, false, false, false, false, false, false, false, false, false, false, false, false, false, false, false, false]
abbrev marksMw_2 : Array Bool := #[true, true, false, false, false, false, false, false, false, false, false, false, false, false, false, false, false, false, false, false, false, false, false, false, false, false, false, false, false, false, false, false, false, false, false, false, false, false, false, false, false, false, false, false, false, false, false, false, false, false]
abbrev marksMw_3 : Array Bool := #[true, true, true, false, false, false, false, false, false, false, false, false, false, false, false, false, false, false, false, false, false, false, false, false, false, false, false, false, false, false, false, false, false, false, false, false, false, false, false, false, false, false, false, false, false, false, false, false, false, false]
abbrev marksMw_4 : Array Bool := #[true, true, true, true, false, false, false, false, false, false, false, false, false, false, false, false, false, false, false, false, false, false, false, false, false, false, false, false, false, false, false, false, false, false, false, false, false, false, false, false, false, false, false, false, false, false, false, false, false, false]
abbrev marksMw_5 : Array Bool := #[true, true, true, true, true, false, false, false, false, false, false, false, false, false, false, false, false, false, false, false, false, false, false, false, false, false, false, false, false, false, false, false, false, false, false, false, false, false, false, false, false, false, false, false, false, false, false, false, false, false]
abbrev marksMw_6 : Array Bool := #[true, true, true, true, true, true, false, false, false, false, false, false, false, false, false, false, false, false, false, false, false, false, false, false, false, false, false, false, false, false, false, false, false, false, false, false, false, false, false, false, false, false, false, false, false, false, false, false, false, false]
abbrev marksMw_7 : Array Bool := #[true, true, true, true, true, true, true, false, false, false, false, false, false, false, false, false, false, false, false, false, false, false, false, false, false, false, false, false, false, false, false, false, false, false, false, false, false, false, false, false, false, false, false, false, false, false, false, false, false, false]
abbrev marksMw_8 : Array Bool := #[true, true, true, true, true, true, true, true, false, false, false, false, false, false, false, false, false, false, false, false, false, false, false, false, false, false, false, false, false, false, false, false, false, false, false, false, false, false, false, false, false, false, false, false, false, false, false, false, false, false]
abbrev marksMw_9 : Array Bool := #[true, true, true, true, true, true, true, true, true, false, false, false, false, false, false, false, false, false, false, false, false, false, false, false, false, false, false, false, false, false, false, false, false, false, false, false, false, false, false, false, false, false, false, false, false, false, false, false, false, false]
abbrev marksMw_10 : Array Bool := #[true, true, true, true, true, true, true, true, true, true, false, false, false, false, false, false, false, false, false, false, false, false, false, false, false, false, false, false, false, false, false, false, false, false, false, false, false, false, false, false, false, false, false, false, false, false, false, false, false, false]
abbrev marksMw_11 : Array Bool := #[true, true, true, true, true, true, true, true, true, true, true, false, false, false, false, false, false, false, false, false, false, false, false, false, false, false, false, false, false, false, false, false, false, false, false, false, false, false, false, false, false, false, false, false, false, false, false, false, false, false]
abbrev marksMw_12 : Array Bool := #[true, true, true, true, true, true, true, true, true, true, true, true, false, false, false, false, false, false, false, false, false, false, false, false, false, false, false, false, false, false, false, false, false, false, false, false, false, false, false, false, false, false, false, false, false, false, false, false, false, false]
abbrev marksMw_13 : Array Bool := #[true, true, true, true, true, true, true, true, true, true, true, true, true, false, false, false, false, false, false, false, false, false, false, false, false, false, false, false, false, false, false, false, false, false, false, false, false, false, false, false, false, false, false, false, false, false, false, false, false, false]
abbrev marksMw_14 : Array Bool := #[true, true, true, true, true, true, true, true, true, true, true, true, true, false, true, false, false, false, false, false, false, false, false, false, false, false, false, false, false, false, false, false, false, false, false, false, false, false, false, false, false, false, false, false, false, false, false, false, false, false]
abbrev marksMw_15 : Array Bool := #[true, true, true, true, true, true, true, true, true, true, true, true, true, true, true, false, false, false, false, false, false, false, false, false, false, false, false, false, false, false, false, false, false, false, false, false, false, false, false, false, false, false, false, false, false, false, false, false, false, false]
abbrev marksMw_16 : Array Bool := #[true, true, true, true, true, true, true, true, true, true, true, true, true, true, true, true, false, false, false, false, false, false, false, false, false, false, false, false, false, false, false, false, false, false, false, false, false, false, false, false, false, false, false, false, false, false, false, false, false, false]
abbrev marksMw_17 : Array Bool := #[true, true, true, true, true, true, true, true, true, true, true, true, true, true, true, true, true, false, false, false, false, false, false, false, false, false, false, false, false, false, false, false, false, false, false, false, false, false, false, false, false, false, false, false, false, false, false, false, false, false]
abbrev marksMw_18 : Array Bool := #[true, true, true, true, true, true, true, true, true, true, true, true, true, true, true, true, true, true, false, false, false, false, false, false, false, false, false, false, false, false, false, false, false, false, false, false, false, false, false, false, false, false, false, false, false, false, false, false, false, false]
abbrev marksMw_19 : Array Bool := #[true, true, true, true, true, true, true, true, true, true, true, true, true, true, true, true, true, true, true, false, false, false, false, false, false, false, false, false, false, false, false, false, false, false, false, false, false, false, false, false, false, false, false, false, false, false, false, false, false, false]
abbrev marksMw_20 : Array Bool := #[true, true, true, true, true, true, true, true, true, true, true, true, true, true, true, true, true, true, true, true, false, false, false, false, false, false, false, false, false, false, false, false, false, false, false, false, false, false, false, false, false, false, false, false, false, false, false, false, false, false]
abbrev marksMw_21 : Array Bool := #[true, true, true, true, true, true, true, true, true, true, true, true, true, true, true, true, true, true, true, true, true, false, false, false, false, false, false, false, false, false, false, false, false, false, false, false, false, false, false, false, false, false, false, false, false, false, false, false, false, false]
abbrev marksMw_22 : Array Bool := #[true, true, true, true, true, true, true, true, true, true, true, true, true, true, true, true, true, true, true, true, true, true, false, false, false, false, false, false, false, false, false, false, false, false, false, false, false, false, false, false, false, false, false, false, false, false, false, false, false, false]
abbrev marksMw_23 : Array Bool := #[true, true, true, true, true, true, true, true, true, true, true, true, true, true, true, true, true, true, true, true, true, true, true, false, false, false, false, false, false, false, false, false, false, false, false, false, false, false, false, false, false, false, false, false, false, false, false, false, false, false]
abbrev marksMw_24 : Array Bool := #[true, true, true, true, true, true, true, true, true, true, true, true, true, true, true, true, true, true, true, true, true, true, true, true, false, false, false, false, false, false, false, false, false, false, false, false, false, false, false, false, false, false, false, false, false, false, false, false, false, false]
abbrev marksMw_25 : Array Bool := #[true, true, true, true, true, true, true, true, true, true, true, true, true, true, true, true, true, true, true, true, true, true, true, true, true, false, false, false, false, false, false, false, false, false, false, false, false, false, false, false, false, false, false, false, false, false, false, false, false, false]
abbrev marksMw_26 : Array Bool := #[true, true, true, true, true, true, true, true, true, true, true, true, true, true, true, true, true, true, true, true, true, true, true, true, true, true, false, false, false, false, false, false, false, false, false, false, false, false, false, false, false, false, false, false, false, false, false, false, false, false]
abbrev marksMw_27 : Array Bool := #[true, true, true, true, true, true, true, true, true, true, true, true, true, true, true, true, true, true, true, true, true, true, true, true, true, true, true, false, false, false, false, false, false, false, false, false, false, false, false, false, false, false, false, false, false, false, false, false, false, false]
abbrev marksMw_28 : Array Bool := #[true, true, true, true, true, true, true, true, true, true, true, true, true, true, true, true, true, true, true, true, true, true, true, true, true, true, true, true, false, false, false, false, false, false, false, false, false, false, false, false, false, false, false, false, false, false, false, false, false, false]
abbrev marksMw_29 : Array Bool := #[true, true, true, true, true, true, true, true, true, true, true, true, true, true, true, true, true, true, true, true, true, true, true, true, true, true, true, true, true, false, false, false, false, false, false, false, false, false, false, false, false, false, false, false, false, false, false, false, false, false]
abbrev marksMw_30 : Array Bool := #[true, true, true, true, true, true, true, true, true, true, true, true, true, true, true, true, true, true, true, true, true, true, true, true, true, true, true, true, true, true, false, false, false, false, false, false, false, false, false, false, false, false, false, false, false, false, false, false, false, false]
abbrev marksMw_31 : Array Bool := #[true, true, true, true, true, true, true, true, true, true, true, true, true, true, true, true, true, true, true, true, true, true, true, true, true, true, true, true, true, true, true, false, false, false, false, false, false, false, false, false, false, false, false, false, false, false, false, false, false, false]
abbrev marksMw_32 : Array Bool := #[true, true, true, true, true, true, true, true, true, true, true, true, true, true, true, true, true, true, true, true, true, true, true, true, true, true, true, true, true, true, true, true, false, false, false, false, false, false, false, false, false, false, false, false, false, false, false, false, false, false]
abbrev marksMw_33 : Array Bool := #[true, true, true, true, true, true, true, true, true, true, true, true, true, true, true, true, true, true, true, true, true, true, true, true, true, true, true, true, true, true, true, true, true, false, false, false, false, false, false, false, false, false, false, false, false, false, false, false, false, false]
abbrev marksMw_34 : Array Bool := #[true, true, true, true, true, true, true, true, true, true, true, true, true, true, true, true, true, true, true, true, true, true, true, true, true, true, true, true, true, true, true, true, true, true, false, false, false, false, false, false, false, false, false, false, false, false, false, false, false, false]
abbrev marksMw_35 : Array Bool := #[true, true, true, true, true, true, true, true, true, true, true, true, true, true, true, true, true, true, true, true, true, true, true, true, true, true, true, true, true, true, true, true, true, true, true, false, false, false, false, false, false, false, false, false, false, false, false, false, false, false]
abbrev marksMw_36 : Array Bool := #[true, true, true, true, true, true, true, true, true, true, true, true, true, true, true, true, true, true, true, true, true, true, true, true, true, true, true, true, true, true, true, true, true, true, true, true, false, false, false, false, false, false, false, false, false, false, false, false, false, false]
abbrev marksMw_37 : Array Bool := #[true, true, true, true, true, true, true, true, true, true, true, true, true, true, true, true, true, true, true, true, true, true, true, true, true, true, true, true, true, true, true, true, true, true, true, true, true, false, false, false, false, false, false, false, false, false, false, false, false, false]
abbrev marksMw_38 : Array Bool := #[true, true, true, true, true, true, true, true, true, true, true, true, true, true, true, true, true, true, true, true, true, true, true, true, true, true, true, true, true, true, true, true, true, true, true, true, true, true, false, false, false, false, false, false, false, false, false, false, false, false]
abbrev marksMw_39 : Array Bool := #[true, true, true, true, true, true, true, true, true, true, true, true, true, true, true, true, true, true, true, true, true, true, true, true, true, true, true, true, true, true, true, true, true, true, true, true, true, true, true, false, false, false, false, false, false, false, false, false, false, false]
abbrev marksMw_40 : Array Bool := #[true, true, true, true, true, true, true, true, true, true, true, true, true, true, true, true, true, true, true, true, true, true, true, true, true, true, true, true, true, true, true, true, true, true, true, true, true, true, true, true, false, false, false, false, false, false, false, false, false, false]
abbrev marksMw_41 : Array Bool := #[true, true, true, true, true, true, true, true, true, true, true, true, true, true, true, true, true, true, true, true, true, true, true, true, true, true, true, true, true, true, true, true, true, true, true, true, true, true, true, true, true, false, false, false, false, false, false, false, false, false]
abbrev marksMw_42 : Array Bool := #[true, true, true, true, true, true, true, true, true, true, true, true, true, true, true, true, true, true, true, true, true, true, true, true, true, true, true, true, true, true, true, true, true, true, true, true, true, true, true, true, true, true, false, false, false, false, false, false, false, false]
abbrev marksMw_43 : Array Bool := #[true, true, true, true, true, true, true, true, true, true, true, true, true, true, true, true, true, true, true, true, true, true, true, true, true, true, true, true, true, true, true, true, true, true, true, true, true, true, true, true, true, true, true, false, false, false, false, false, false, false]
abbrev marksMw_44 : Array Bool := #[true, true, true, true, true, true, true, true, true, true, true, true, true, true, true, true, true, true, true, true, true, true, true, true, true, true, true, true, true, true, true, true, true, true, true, true, true, true, true, true, true, true, true, true, false, false, false, false, false, false]
abbrev marksMw_45 : Array Bool := #[true, true, true, true, true, true, true, true, true, true, true, true, true, true, true, true, true, true, true, true, true, true, true, true, true, true, true, true, true, true, true, true, true, true, true, true, true, true, true, true, true, true, true, true, true, false, false, false, false, false]
abbrev marksMw_46 : Array Bool := #[true, true, true, true, true, true, true, true, true, true, true, true, true, true, true, true, true, true, true, true, true, true, true, true, true, true, true, true, true, true, true, true, true, true, true, true, true, true, true, true, true, true, true, true, true, true, false, false, false, false]
abbrev marksMw_47 : Array Bool := #[true, true, true, true, true, true, true, true, true, true, true, true, true, true, true, true, true, true, true, true, true, true, true, true, true, true, true, true, true, true, true, true, true, true, true, true, true, true, true, true, true, true, true, true, true, true, true, false, false, false]
abbrev marksMw_48 : Array Bool := #[true, true, true, true, true, true, true, true, true, true, true, true, true, true, true, true, true, true, true, true, true, true, true, true, true, true, true, true, true, true, true, true, true, true, true, true, true, true, true, true, true, true, true, true, true, true, true, true, false, false]
abbrev marksMw_49 : Array Bool := #[true, true, true, true, true, true, true, true, true, true, true, true, true, true, true, true, true, true, true, true, true, true, true, true, true, true, true, true, true, true, true, true, true, true, true, true, true, true, true, true, true, true, true, true, true, true, true, true, true, false]
abbrev marksMw_50 : Array Bool := #[true, true, true, true, true, true, true, true, true, true, true, true, true, true, true, true, true, true, true, true, true, true, true, true, true, true, true, true, true, true, true, true, true, true, true, true, true, true, true, true, true, true, true, true, true, true, true, true, true, true]
theorem moved_of {k : Nat} {l r : List Nod} {nd par : Stp} (h : moved k l nd par = some r) : moveN l nd par = r := by
  unfold moved at h
  unfold moveN
  split at h
  · rename_i h1
    rw [if_pos h1]
    exact Option.some.inj h
  · rename_i h1
    rw [if_neg h1]
    split at h
    · rename_i h2
      rw [if_pos h2]
      exact Option.some.inj h
    · rename_i h2
      rw [if_neg h2]
      obtain ⟨b, hb, he⟩ := Option.map_eq_some_iff.1 h
      rw [under_of hb]
      exact he
theorem doK_of {k : Nat} {l r : List Nod} {o : Opn} (h : doK k l o = some r) : doN l o = r := by
  unfold doK at h
  unfold doN
  split at h
  · rename_i h1
    rw [if_pos h1]
    exact Option.some.inj h
  · rename_i h1
    rw [if_neg h1]
    split at h
    · rename_i h2
      rw [if_pos h2]
      exact moved_of h
    · rename_i h2
      rw [if_neg h2]
      split at h
      · rename_i h3
        rw [if_pos h3]
        exact moved_of h
      · rename_i h3
        rw [if_neg h3]
        split at h
        · rename_i h4
          rw [if_pos h4]
          exact Option.some.inj h
        · rename_i h4
          rw [if_neg h4]
          split at h
          · exact Option.some.inj h
          · cases h
/-- What operations make of nodes, reckoned: parents are followed k times at the most. -/
def foldK (k : Nat) : List Opn → List Nod → Option (List Nod)
  | [], l => some l
  | o :: os, l => (doK k l o).bind (foldK k os)
theorem foldK_of {k : Nat} : ∀ {os : List Opn} {l r : List Nod}, foldK k os l = some r → os.foldl doN l = r
  | [], l, r, h => Option.some.inj h
  | o :: os, l, r, h => by
    obtain ⟨l1, h1, h2⟩ := Option.bind_eq_some_iff.1 (show (doK k l o).bind (foldK k os) = some r from h)
    rw [List.foldl_cons, doK_of h1]
    exact foldK_of h2
def awO0 : Opn := ⟨2, ⟨6, 1⟩, ⟨2, 1⟩, ⟨1, 1⟩, ⟨#[]⟩, ⟨#[]⟩⟩
def awO1 : Opn := ⟨1, ⟨2, 1⟩, ⟨2, 1⟩, ⟨0, 0⟩, ⟨#[98]⟩, ⟨#[]⟩⟩
def awO2 : Opn := ⟨1, ⟨1, 1⟩, ⟨1, 1⟩, ⟨0, 0⟩, ⟨#[97]⟩, ⟨#[]⟩⟩
def awO3 : Opn := ⟨2, ⟨5, 1⟩, ⟨1, 1⟩, ⟨2, 1⟩, ⟨#[]⟩, ⟨#[]⟩⟩
def awO : List Opn := [awO0, awO1, awO2, awO3]
/-- The tree's operations when i have been put. -/
def awT (i : Nat) : List Opn := (awO.take i).foldl insO []
theorem awN : foldK 9 (awT 4) [] = some [⟨⟨1, 1⟩, ⟨2, 1⟩, ⟨#[97]⟩, ⟨#[]⟩⟩, ⟨⟨2, 1⟩, ⟨0, 0⟩, ⟨#[98]⟩, ⟨#[]⟩⟩] := by kernel_rfl
theorem awF : foldK 9 ((awT 4).take 2) [] = some [⟨⟨1, 1⟩, ⟨0, 0⟩, ⟨#[97]⟩, ⟨#[]⟩⟩, ⟨⟨2, 1⟩, ⟨0, 0⟩, ⟨#[98]⟩, ⟨#[]⟩⟩] := by kernel_rfl
theorem OpsAt.own_ge {w : World} {B : Nat} {v : Value} {l : List Opn} (h : OpsAt w B v l) (k : Nat) (hk : v.ownBlock = some k) : B ≤ k := by
  rcases h.row.2 with ⟨rfl, _⟩ | ⟨g, c, cur, rfl, hB, _⟩
  · cases hk
  · simp [Value.ownBlock] at hk
    omega
/-- The tree of awake, in its loop: i operations have been put. -/
structure AwAt (w w1 wr : World) (g f n i : Nat) (v : Value) (T : Tr) : Prop where
  tree : TreeAt wr w.heap.size g f n v T
  good : Good T
  fixed : T.fixed = []
  base : T.base = St0
  ops : T.ops = awT i
  row : ∀ k, v.ownBlock = some k → k ≠ w1.heap.size
  list : wr.heap[w1.heap.size]? = some (.cells #[.int .i64 2, .int .i64 6, .int .i64 1, .int .i64 2, .int .i64 1, .int .i64 1, .int .i64 1, .string ⟨#[]⟩, .string ⟨#[]⟩, .int .i64 1, .int .i64 2, .int .i64 1, .int .i64 2, .int .i64 1, .int .i64 0, .int .i64 0, .string ⟨#[98]⟩, .string ⟨#[]⟩, .int .i64 1, .int .i64 1, .int .i64 1, .int .i64 1, .int .i64 1, .int .i64 0, .int .i64 0, .string ⟨#[97]⟩, .string ⟨#[]⟩, .int .i64 2, .int .i64 5, .int .i64 1, .int .i64 1, .int .i64 1, .int .i64 2, .int .i64 1, .string ⟨#[]⟩, .string ⟨#[]⟩] 28)
  below : Below w.heap.size w wr
theorem AwAt.step {w w1 wr w' : World} {g f n i : Nat} {v v' : Value} {T T' : Tr} (h : AwAt w w1 wr g f n i v T) (hlt : g < w1.heap.size ∧ f < w1.heap.size ∧ n < w1.heap.size) (ht : TreeAt w' w.heap.size g f n v' T') (hg : Good T') (h1 : T'.fixed = T.fixed) (h2 : T'.base = T.base) (h3 : T'.ops = awT (i + 1)) (h4 : Stay wr w' (foot g f n v)) (h5 : ∀ k, v'.ownBlock = some k → v.ownBlock = some k ∨ wr.heap.size ≤ k) : AwAt w w1 w' g f n (i + 1) v' T' := by
  have hl := blk_lt h.list
  refine ⟨ht, hg, h1.trans h.fixed, h2.trans h.base, h3, fun k hk e => ?_, h4.blk h.list (fun hk => ?_), h4.back h.below h.below.size (fun k hk => ?_)⟩
  · rcases h5 k hk with h6 | h6
    · exact h.row k h6 e
    · omega
  · rcases hk with hk | hk | hk | hk
    · omega
    · omega
    · omega
    · exact h.row _ hk rfl
  · rcases hk with rfl | rfl | rfl | hk
    · exact h.tree.bg
    · exact h.tree.bf
    · exact h.tree.bn
    · exact OpsAt.own_ge h.tree.ops k hk
theorem good_new : Good ⟨[], [], [], St0⟩ where
  rt := ⟨fun s => ⟨1, by simp [root, look, lk, zNod]; right; decide⟩, fun m hm => by simp at hm, fun m hm => by simp at hm⟩
  nd := by simp
  ok := fun o ho => by simp at ho
  srt := List.Pairwise.nil
  aft := fun o ho => by simp at ho
  len := by simp
  fl := by simp [creates]
  now := ⟨[], .refl _, rfl⟩
theorem AwAt.start {w w1 : World} {g f n : Nat} (ht : TreeAt w1 w.heap.size g f n (.slice none 0 0) ⟨[], [], [], St0⟩) (hb : Below w.heap.size w w1) : AwAt w w1 (w1.alloc (.cells #[.int .i64 2, .int .i64 6, .int .i64 1, .int .i64 2, .int .i64 1, .int .i64 1, .int .i64 1, .string ⟨#[]⟩, .string ⟨#[]⟩, .int .i64 1, .int .i64 2, .int .i64 1, .int .i64 2, .int .i64 1, .int .i64 0, .int .i64 0, .string ⟨#[98]⟩, .string ⟨#[]⟩, .int .i64 1, .int .i64 1, .int .i64 1, .int .i64 1, .int .i64 1, .int .i64 0, .int .i64 0, .string ⟨#[97]⟩, .string ⟨#[]⟩, .int .i64 2, .int .i64 5, .int .i64 1, .int .i64 1, .int .i64 1, .int .i64 2, .int .i64 1, .string ⟨#[]⟩, .string ⟨#[]⟩] 28)) g f n 0 (.slice none 0 0) ⟨[], [], [], St0⟩ :=
  ⟨ht.below (below_alloc (Below.refl _ _) _), good_new, rfl, rfl, rfl, (fun k hk => by cases hk), heap_alloc_new _ _, below_alloc (below_then hb hb.size (Below.refl _ _)) _⟩
-- TABLE BEGIN
def awake_.T12 : Bool × List (List Nat × List Nat) := (true, [([], []), ([0], [0]), ([1], [1]), ([1, 2], [1, 2]), ([3, 1], [3]), ([4], [4]), ([4, 4], [4]), ([6, 4], [4]), ([6, 7, 4], [4, 6, 7]), ([5, 8, 4], [4, 5, 8]), ([4, 9], [4, 9]), ([10, 7], [10]), ([11], [11]), ([12, 11], [11, 12]), ([11], [11]), ([13, 14, 11], [11, 13, 14]), ([11, 15], [11, 15]), ([16, 11], [16]), ([17], [17]), ([18, 17, 17], [17, 18]), ([19, 17], [17, 19]), ([20, 17], [17, 20]), ([17, 21], [17, 21]), ([22, 19], [22]), ([23], [23]), ([24, 23, 23], [23, 24]), ([25, 23], [23, 25]), ([26, 23], [23, 26]), ([27, 23], [23, 27]), ([28, 23], [23, 28]), ([23, 29], [23, 29]), ([30, 25], [30]), ([31], [31]), ([31, 31], [31]), ([32, 33, 33, 31], [31, 32, 33]), ([34, 31], [31, 34]), ([31, 35], [31, 35]), ([36, 34], [36]), ([37], [37]), ([38, 37, 37], [37, 38]), ([39, 37], [37, 39]), ([40, 37], [37, 40]), ([37, 41], [37, 41]), ([42, 39], [42]), ([43], [43]), ([44, 43, 43], [43, 44]), ([45, 43], [43]), ([45, 46, 43], [43, 45, 46]), ([43, 47], [43, 47]), ([48, 46, 0, 1, 2, 3, 4, 5, 6, 7, 8, 9, 10, 11, 12, 13, 14, 15, 16, 17, 18, 19, 20, 21, 22, 23, 24, 25, 26, 27, 28, 29, 30, 31, 32, 33, 34, 35, 36, 37, 38, 39, 40, 41, 42, 43, 44, 45, 46, 47, 48], [48])])
def awake_.B12 : List Nat := [0, 1, 3, 7, 15, 31, 31, 95, 223, 511, 1023, 2047, 4095, 8191, 4095, 32767, 65535, 131071, 262143, 524287, 1048575, 2097151, 4194303, 8388607, 16777215, 33554431, 67108863, 134217727, 268435455, 536870911, 1073741823, 2147483647, 4294967295, 4294967295, 17179869183, 34359738367, 68719476735, 137438953471, 274877906943, 549755813887, 1099511627775, 2199023255551, 4398046511103, 8796093022207, 17592186044415, 35184372088831, 70368744177663, 140737488355327, 281474976710655, 562949953421311]
theorem awake_.tab12 : rtab .any (opsOf Tryd.f16 12) = awake_.T12 := by kernel_rfl
theorem awake_.bits12 : waitsOk awake_.T12.2 awake_.B12 = true := by kernel_rfl
-- TABLE END
theorem ops_four {w : World} {B : Nat} {v : Value} {l : List Opn} (h : OpsAt w B v l) (hl : l.length = 4) {u : Value} (hu : (flat l)[7]? = some u) : ∃ q c, v = .slice (some ⟨q, 0, none⟩) 4 c ∧ w.cell? ⟨q, 7, none⟩ = some u := by
  rcases h.row.2 with ⟨_, h0⟩ | ⟨q, c, cur, rfl, hB, hcur, _, _, hs, ht⟩
  · rw [hl] at h0
    cases h0
  · refine ⟨q, c, by rw [hl], (blk_cell hcur 7).trans ?_⟩
    rw [hl] at ht
    have h7 : (cur.toList.take (4 * 9))[7]? = some u := by rw [ht]; exact hu
    rw [List.getElem?_take_of_lt (by decide)] at h7
    simpa using h7
theorem nodes_two {w : World} {B : Nat} {v : Value} {l : List Nod} (h : NodesAt w B v l) (hl : l.length = 2) : ∃ q c, v = .slice (some ⟨q, 0, none⟩) 2 c := by
  rcases h.2 with ⟨_, h0⟩ | ⟨q, c, cur, rfl, _⟩
  · rw [hl] at h0
    cases h0
  · exact ⟨q, c, by rw [hl]⟩
theorem TreeAt.back {w0 w w1 : World} {B g f n : Nat} {v : Value} {T : Tr} (h : TreeAt w B g f n v T) (hs : Stay w w1 (foot g f n v)) (hb : Below B w0 w) : Below B w0 w1 :=
  hs.back hb (Nat.le_of_lt (Nat.lt_of_le_of_lt h.bg (blk_lt h.blk))) (fun k hk => by
    rcases hk with rfl | rfl | rfl | hk
    · exact h.bg
    · exact h.bf
    · exact h.bn
    · exact OpsAt.own_ge h.ops k hk)
set_option maxRecDepth 100000 in
set_option maxHeartbeats 4000000 in
theorem awake_calls (w : World) (hL : Laid w) : Calls Tryd.prog 16 #[] w fun e w' => e = .returned (.bool true) ∧ Below w.heap.size w w' := by
  have HL := Aside0.mk hL
  clear hL
  go_enter Tryd.func16, Tryd.ntmps16
  go_upto_region 5 with (first
    | (go_at_call 12; refine (New_calls _).mono ?_; rintro e w1 ⟨g, f, n, rfl, ht, hb⟩; have HT := Aside0.mk ht; have HB := Aside0.mk hb; clear ht hb)
    | (go_at_call 13; refine (samphirelaw11_at.calls _ _ _ _ _ rfl).mono ?_; rintro e w1 ⟨rfl, hb⟩; replace HT := Aside0.mk (HT.out.below hb); replace HB := Aside0.mk (below_then HB.out HB.out.size hb); clear hb))
  have hA := AwAt.start HT.out HB.out
  generalize w1.alloc (.cells #[.int .i64 2, .int .i64 6, .int .i64 1, .int .i64 2, .int .i64 1, .int .i64 1, .int .i64 1, .string ⟨#[]⟩, .string ⟨#[]⟩, .int .i64 1, .int .i64 2, .int .i64 1, .int .i64 2, .int .i64 1, .int .i64 0, .int .i64 0, .string ⟨#[98]⟩, .string ⟨#[]⟩, .int .i64 1, .int .i64 1, .int .i64 1, .int .i64 1, .int .i64 1, .int .i64 0, .int .i64 0, .string ⟨#[97]⟩, .string ⟨#[]⟩, .int .i64 2, .int .i64 5, .int .i64 1, .int .i64 1, .int .i64 1, .int .i64 2, .int .i64 1, .string ⟨#[]⟩, .string ⟨#[]⟩] 28) = w2 at hA ⊢
  have HLT := Aside0.mk (show g < w1.heap.size ∧ f < w1.heap.size ∧ n < w1.heap.size from ⟨blk_lt HT.out.blk, HT.out.fix.lt, HT.out.now.lt⟩)
  have HA := Aside0.mk hA
  clear hA HT HB
  go_wp2_with fail
  try go_frame
  go_loopg [3] 5 (fun kq p wr => ∃ (i : Nat) (v : Value) (T : Tr), Aside0 (kq + i = 5 ∧ i ≤ 4) ∧ p = .int .i64 (i : Int) ∧ Aside0 (AwAt w w1 wr g f n i v T))
  case atStart => exact ⟨0, _, _, ⟨rfl, by omega⟩, rfl, HA⟩
  case round =>
    clear HA
    obtain ⟨i, v, T, HK, rfl, HA⟩ := hrel
    obtain rfl | rfl | rfl | rfl | rfl : i = 0 ∨ i = 1 ∨ i = 2 ∨ i = 3 ∨ i = 4 := by have := HK.out; omega
    · have hput : putO T awO0 0 = (awT 1, 0) := by
        obtain ⟨tf, tn, tp, tb⟩ := T
        obtain rfl : tf = [] := HA.out.fixed
        obtain rfl : tb = St0 := HA.out.base
        obtain rfl : tp = awT 0 := HA.out.ops
        rfl
      have HPUT := Aside0.mk hput
      clear hput
      have c0 : wr.cell? ⟨w1.heap.size, 0, none⟩ = some (.int .i64 2) := (blk_cell HA.out.list 0).trans rfl
      have c1 : wr.cell? ⟨w1.heap.size, 1, none⟩ = some (.int .i64 6) := (blk_cell HA.out.list 1).trans rfl
      have c2 : wr.cell? ⟨w1.heap.size, 2, none⟩ = some (.int .i64 1) := (blk_cell HA.out.list 2).trans rfl
      have c3 : wr.cell? ⟨w1.heap.size, 3, none⟩ = some (.int .i64 2) := (blk_cell HA.out.list 3).trans rfl
      have c4 : wr.cell? ⟨w1.heap.size, 4, none⟩ = some (.int .i64 1) := (blk_cell HA.out.list 4).trans rfl
      have c5 : wr.cell? ⟨w1.heap.size, 5, none⟩ = some (.int .i64 1) := (blk_cell HA.out.list 5).trans rfl
      have c6 : wr.cell? ⟨w1.heap.size, 6, none⟩ = some (.int .i64 1) := (blk_cell HA.out.list 6).trans rfl
      have c7 : wr.cell? ⟨w1.heap.size, 7, none⟩ = some (.string ⟨#[]⟩) := (blk_cell HA.out.list 7).trans rfl
      have c8 : wr.cell? ⟨w1.heap.size, 8, none⟩ = some (.string ⟨#[]⟩) := (blk_cell HA.out.list 8).trans rfl
      go_wp2_with (go_at_call 14; refine (Apply_calls wr _ g f n v T awO0 40 0 HA.out.tree HA.out.good (by kernel_rfl) (fun _ => ⟨by decide, by decide⟩) (HL.out.below HA.out.below)).mono ?_; rintro e w' ⟨T', v', rfl, ht, hg, h1, h2, h3, h4, h5⟩; rw [HPUT.out] at h3 ⊢; have HA' := Aside0.mk (HA.out.step HLT.out ht hg h1 h2 h3 h4 h5); clear ht hg h1 h2 h3 h4 h5)
      go_roundg 4
      case measure => have := HK.out; omega
      case rel => exact ⟨1, v', T', ⟨by omega, by omega⟩, rfl, HA'⟩
    · have hput : putO T awO1 0 = (awT 2, 0) := by
        obtain ⟨tf, tn, tp, tb⟩ := T
        obtain rfl : tf = [] := HA.out.fixed
        obtain rfl : tb = St0 := HA.out.base
        obtain rfl : tp = awT 1 := HA.out.ops
        rfl
      have HPUT := Aside0.mk hput
      clear hput
      have c0 : wr.cell? ⟨w1.heap.size, 9, none⟩ = some (.int .i64 1) := (blk_cell HA.out.list 9).trans rfl
      have c1 : wr.cell? ⟨w1.heap.size, 10, none⟩ = some (.int .i64 2) := (blk_cell HA.out.list 10).trans rfl
      have c2 : wr.cell? ⟨w1.heap.size, 11, none⟩ = some (.int .i64 1) := (blk_cell HA.out.list 11).trans rfl
      have c3 : wr.cell? ⟨w1.heap.size, 12, none⟩ = some (.int .i64 2) := (blk_cell HA.out.list 12).trans rfl
      have c4 : wr.cell? ⟨w1.heap.size, 13, none⟩ = some (.int .i64 1) := (blk_cell HA.out.list 13).trans rfl
      have c5 : wr.cell? ⟨w1.heap.size, 14, none⟩ = some (.int .i64 0) := (blk_cell HA.out.list 14).trans rfl
      have c6 : wr.cell? ⟨w1.heap.size, 15, none⟩ = some (.int .i64 0) := (blk_cell HA.out.list 15).trans rfl
      have c7 : wr.cell? ⟨w1.heap.size, 16, none⟩ = some (.string ⟨#[98]⟩) := (blk_cell HA.out.list 16).trans rfl
      have c8 : wr.cell? ⟨w1.heap.size, 17, none⟩ = some (.string ⟨#[]⟩) := (blk_cell HA.out.list 17).trans rfl
      go_wp2_with (go_at_call 14; refine (Apply_calls wr _ g f n v T awO1 40 0 HA.out.tree HA.out.good (by kernel_rfl) (fun _ => ⟨by decide, by decide⟩) (HL.out.below HA.out.below)).mono ?_; rintro e w' ⟨T', v', rfl, ht, hg, h1, h2, h3, h4, h5⟩; rw [HPUT.out] at h3 ⊢; have HA' := Aside0.mk (HA.out.step HLT.out ht hg h1 h2 h3 h4 h5); clear ht hg h1 h2 h3 h4 h5)
      go_roundg 3
      case measure => have := HK.out; omega
      case rel => exact ⟨2, v', T', ⟨by omega, by omega⟩, rfl, HA'⟩
    · have hput : putO T awO2 0 = (awT 3, 0) := by
        obtain ⟨tf, tn, tp, tb⟩ := T
        obtain rfl : tf = [] := HA.out.fixed
        obtain rfl : tb = St0 := HA.out.base
        obtain rfl : tp = awT 2 := HA.out.ops
        rfl
      have HPUT := Aside0.mk hput
      clear hput
      have c0 : wr.cell? ⟨w1.heap.size, 18, none⟩ = some (.int .i64 1) := (blk_cell HA.out.list 18).trans rfl
      have c1 : wr.cell? ⟨w1.heap.size, 19, none⟩ = some (.int .i64 1) := (blk_cell HA.out.list 19).trans rfl
      have c2 : wr.cell? ⟨w1.heap.size, 20, none⟩ = some (.int .i64 1) := (blk_cell HA.out.list 20).trans rfl
      have c3 : wr.cell? ⟨w1.heap.size, 21, none⟩ = some (.int .i64 1) := (blk_cell HA.out.list 21).trans rfl
      have c4 : wr.cell? ⟨w1.heap.size, 22, none⟩ = some (.int .i64 1) := (blk_cell HA.out.list 22).trans rfl
      have c5 : wr.cell? ⟨w1.heap.size, 23, none⟩ = some (.int .i64 0) := (blk_cell HA.out.list 23).trans rfl
      have c6 : wr.cell? ⟨w1.heap.size, 24, none⟩ = some (.int .i64 0) := (blk_cell HA.out.list 24).trans rfl
      have c7 : wr.cell? ⟨w1.heap.size, 25, none⟩ = some (.string ⟨#[97]⟩) := (blk_cell HA.out.list 25).trans rfl
      have c8 : wr.cell? ⟨w1.heap.size, 26, none⟩ = some (.string ⟨#[]⟩) := (blk_cell HA.out.list 26).trans rfl
      go_wp2_with (go_at_call 14; refine (Apply_calls wr _ g f n v T awO2 40 0 HA.out.tree HA.out.good (by kernel_rfl) (fun _ => ⟨by decide, by decide⟩) (HL.out.below HA.out.below)).mono ?_; rintro e w' ⟨T', v', rfl, ht, hg, h1, h2, h3, h4, h5⟩; rw [HPUT.out] at h3 ⊢; have HA' := Aside0.mk (HA.out.step HLT.out ht hg h1 h2 h3 h4 h5); clear ht hg h1 h2 h3 h4 h5)
      go_roundg 2
      case measure => have := HK.out; omega
      case rel => exact ⟨3, v', T', ⟨by omega, by omega⟩, rfl, HA'⟩
    · have hput : putO T awO3 0 = (awT 4, 0) := by
        obtain ⟨tf, tn, tp, tb⟩ := T
        obtain rfl : tf = [] := HA.out.fixed
        obtain rfl : tb = St0 := HA.out.base
        obtain rfl : tp = awT 3 := HA.out.ops
        rfl
      have HPUT := Aside0.mk hput
      clear hput
      have c0 : wr.cell? ⟨w1.heap.size, 27, none⟩ = some (.int .i64 2) := (blk_cell HA.out.list 27).trans rfl
      have c1 : wr.cell? ⟨w1.heap.size, 28, none⟩ = some (.int .i64 5) := (blk_cell HA.out.list 28).trans rfl
      have c2 : wr.cell? ⟨w1.heap.size, 29, none⟩ = some (.int .i64 1) := (blk_cell HA.out.list 29).trans rfl
      have c3 : wr.cell? ⟨w1.heap.size, 30, none⟩ = some (.int .i64 1) := (blk_cell HA.out.list 30).trans rfl
      have c4 : wr.cell? ⟨w1.heap.size, 31, none⟩ = some (.int .i64 1) := (blk_cell HA.out.list 31).trans rfl
      have c5 : wr.cell? ⟨w1.heap.size, 32, none⟩ = some (.int .i64 2) := (blk_cell HA.out.list 32).trans rfl
      have c6 : wr.cell? ⟨w1.heap.size, 33, none⟩ = some (.int .i64 1) := (blk_cell HA.out.list 33).trans rfl
      have c7 : wr.cell? ⟨w1.heap.size, 34, none⟩ = some (.string ⟨#[]⟩) := (blk_cell HA.out.list 34).trans rfl
      have c8 : wr.cell? ⟨w1.heap.size, 35, none⟩ = some (.string ⟨#[]⟩) := (blk_cell HA.out.list 35).trans rfl
      go_wp2_with (go_at_call 14; refine (Apply_calls wr _ g f n v T awO3 40 0 HA.out.tree HA.out.good (by kernel_rfl) (fun _ => ⟨by decide, by decide⟩) (HL.out.below HA.out.below)).mono ?_; rintro e w' ⟨T', v', rfl, ht, hg, h1, h2, h3, h4, h5⟩; rw [HPUT.out] at h3 ⊢; have HA' := Aside0.mk (HA.out.step HLT.out ht hg h1 h2 h3 h4 h5); clear ht hg h1 h2 h3 h4 h5)
      go_roundg 1
      case measure => have := HK.out; omega
      case rel => exact ⟨4, v', T', ⟨by omega, by omega⟩, rfl, HA'⟩
    · have hnow : T.now = [⟨⟨1, 1⟩, ⟨2, 1⟩, ⟨#[97]⟩, ⟨#[]⟩⟩, ⟨⟨2, 1⟩, ⟨0, 0⟩, ⟨#[98]⟩, ⟨#[]⟩⟩] := by
        obtain ⟨l0, hp, he⟩ := HA.out.good.now
        rw [HA.out.fixed] at hp
        obtain rfl := List.Perm.eq_nil hp
        rw [he, HA.out.ops, foldK_of awN]
      have lk1 : look T.now ⟨1, 1⟩ = ⟨⟨1, 1⟩, ⟨2, 1⟩, ⟨#[97]⟩, ⟨#[]⟩⟩ := by rw [hnow]; rfl
      have lk2 : look T.now ⟨2, 1⟩ = ⟨⟨2, 1⟩, ⟨0, 0⟩, ⟨#[98]⟩, ⟨#[]⟩⟩ := by rw [hnow]; rfl
      have hs1 : has T.now ⟨1, 1⟩ = true := by rw [hnow]; rfl
      have hs2 : has T.now ⟨2, 1⟩ = true := by rw [hnow]; rfl
      have HT := Aside0.mk HA.out.tree
      have HB := Aside0.mk HA.out.below
      clear hnow
      go_upto_region 11 with (first
        | (go_at_call 13; refine (samphirelaw11_at.calls _ _ _ _ _ rfl).mono ?_; rintro e w1 ⟨rfl, hb⟩; replace HT := Aside0.mk (HT.out.below hb); replace HB := Aside0.mk (below_then HB.out HB.out.size hb); clear hb)
        | (go_at_call 19; refine (Get_calls _ _ g f n v T ⟨_, _⟩ HT.out).mono ?_; rintro e w1 ⟨rfl, hb⟩; replace HT := Aside0.mk (HT.out.below hb); replace HB := Aside0.mk (below_then HB.out HB.out.size hb); clear hb))
      have HX := Aside0.mk (heap_alloc_new w1 (.cells #[.int .i64 1, .int .i64 1, .int .i64 2, .int .i64 1, .string ⟨#[97]⟩, .string ⟨#[]⟩] 36))
      replace HT := Aside0.mk (HT.out.below (below_alloc (Below.refl w1.heap.size w1) (.cells #[.int .i64 1, .int .i64 1, .int .i64 2, .int .i64 1, .string ⟨#[97]⟩, .string ⟨#[]⟩] 36)))
      replace HB := Aside0.mk (below_alloc HB.out (.cells #[.int .i64 1, .int .i64 1, .int .i64 2, .int .i64 1, .string ⟨#[97]⟩, .string ⟨#[]⟩] 36))
      generalize w1.heap.size = xa at HX ⊢
      generalize w1.alloc (.cells #[.int .i64 1, .int .i64 1, .int .i64 2, .int .i64 1, .string ⟨#[97]⟩, .string ⟨#[]⟩] 36) = w3 at HX HT HB ⊢
      go_upto_region 12 with (first
        | (go_at_call 13; refine (samphirelaw11_at.calls _ _ _ _ _ rfl).mono ?_; rintro e w1 ⟨rfl, hb⟩; replace HT := Aside0.mk (HT.out.below hb); replace HB := Aside0.mk (below_then HB.out HB.out.size hb); replace HX := Aside0.mk (blk_below HX.out hb); clear hb)
        | (go_at_call 19; refine (Get_calls _ _ g f n v T ⟨_, _⟩ HT.out).mono ?_; rintro e w1 ⟨rfl, hb⟩; replace HT := Aside0.mk (HT.out.below hb); replace HB := Aside0.mk (below_then HB.out HB.out.size hb); replace HX := Aside0.mk (blk_below HX.out hb); clear hb))
      have HZ := Aside0.mk (heap_alloc_new w1 (.cells #[.int .i64 2, .int .i64 1, .int .i64 0, .int .i64 0, .string ⟨#[98]⟩, .string ⟨#[]⟩] 36))
      replace HX := Aside0.mk (blk_below HX.out (below_alloc (Below.refl w1.heap.size w1) (.cells #[.int .i64 2, .int .i64 1, .int .i64 0, .int .i64 0, .string ⟨#[98]⟩, .string ⟨#[]⟩] 36)))
      replace HT := Aside0.mk (HT.out.below (below_alloc (Below.refl w1.heap.size w1) (.cells #[.int .i64 2, .int .i64 1, .int .i64 0, .int .i64 0, .string ⟨#[98]⟩, .string ⟨#[]⟩] 36)))
      replace HB := Aside0.mk (below_alloc HB.out (.cells #[.int .i64 2, .int .i64 1, .int .i64 0, .int .i64 0, .string ⟨#[98]⟩, .string ⟨#[]⟩] 36))
      generalize w1.heap.size = xb at HZ ⊢
      generalize w1.alloc (.cells #[.int .i64 2, .int .i64 1, .int .i64 0, .int .i64 0, .string ⟨#[98]⟩, .string ⟨#[]⟩] 36) = w4 at HX HZ HT HB ⊢
      have hlen : T.ops.length = 4 := by rw [HA.out.ops]; rfl
      have hcell : (flat T.ops)[7]? = some (.string ⟨#[97]⟩) := by rw [HA.out.ops]; rfl
      have HCELL := Aside0.mk hcell
      have hfin : tree_fine.f 3 1 = some true := by kernel_rfl
      have hup : (comped T ⟨3, 1⟩ true).2 = 2 := by
        show ((upN T.ops ⟨3, 1⟩ : Nat) : Int) = 2
        rw [HA.out.ops]
        rfl
      have hfx : (comped T ⟨3, 1⟩ true).1.fixed.length = 2 := by
        show (((T.ops.take (upN T.ops ⟨3, 1⟩)).foldl doN T.fixed).length) = 2
        rw [HA.out.ops, HA.out.fixed]
        show ((((awT 4).take 2).foldl doN []).length) = 2
        rw [foldK_of awF]
        rfl
      have hbs : (comped T ⟨3, 1⟩ true).1.base = ⟨3, 1⟩ := by
        show (if lessB T.base ⟨3, 1⟩ = true then (⟨3, 1⟩ : Stp) else T.base) = _
        rw [HA.out.base]
        rfl
      have HFIN := Aside0.mk hfin
      clear hcell hfin lk1 lk2 hs1 hs2
      have a0 := blk_cell HX.out 0
      have a1 := blk_cell HX.out 1
      have a2 := blk_cell HX.out 2
      have a3 := blk_cell HX.out 3
      have a4 := blk_cell HX.out 4
      have a5 := blk_cell HX.out 5
      have z2 := blk_cell HZ.out 2
      have z3 := blk_cell HZ.out 3
      replace HT := Aside0.mk (HT.out.below (Below.refl _ _).drew)
      replace HB := Aside0.mk HB.out.drew
      replace HX := Aside0.mk (show w4.drew.heap[xa]? = _ from HX.out)
      replace HZ := Aside0.mk (show w4.drew.heap[xb]? = _ from HZ.out)
      clear a0 a1 a2 a3 a4 a5 z2 z3
      refine start_ (n := 50) (S := fun w' => w'.cell? ⟨xa, 0, none⟩ = some (.int .i64 1) ∧ w'.cell? ⟨xa, 1, none⟩ = some (.int .i64 1) ∧ w'.cell? ⟨xa, 2, none⟩ = some (.int .i64 2) ∧ w'.cell? ⟨xa, 3, none⟩ = some (.int .i64 1) ∧ w'.cell? ⟨xa, 4, none⟩ = some (.string ⟨#[97]⟩) ∧ w'.cell? ⟨xa, 5, none⟩ = some (.string ⟨#[]⟩) ∧ w'.cell? ⟨xb, 2, none⟩ = some (.int .i64 0) ∧ w'.cell? ⟨xb, 3, none⟩ = some (.int .i64 0)) (ds := [25, 28, 33, 34, 39, 45, 46]) marksMw_0 (by kernel_rfl) rfl rfl ⟨(blk_cell HX.out 0), (blk_cell HX.out 1), (blk_cell HX.out 2), (blk_cell HX.out 3), (blk_cell HX.out 4), (blk_cell HX.out 5), (blk_cell HZ.out 2), (blk_cell HZ.out 3)⟩ (fun hHeld => ?_)
      refine with_tabW awake_.tab12 awake_.bits12 (fun HT_ HW_ => ?_)
      refine pureQ (i := 0) (N := some 51) marksMw_1 (any_of HT_.out (by kernel_rfl)) ?_
      refine pureQ (i := 1) (N := some 52) marksMw_2 (any_of HT_.out (by kernel_rfl)) ?_
      refine pureQ (i := 2) (N := some 53) marksMw_3 (any_of HT_.out (by kernel_rfl)) ?_
      refine pureQ (i := 3) (N := some 54) marksMw_4 (any_of HT_.out (by kernel_rfl)) ?_
      refine pureQ (i := 4) (N := some 55) marksMw_5 (any_of HT_.out (by kernel_rfl)) ?_
      refine take_ (i := 5) (N := some 56) (v := ?_) (a' := ?_) marksMw_6 rfl rfl (take_ofW HT_.out HW_.out (by kernel_rfl)) (fun _ _ _ h => h) (Or.inl ⟨by rfl, ?_⟩) hHeld ?_ ?_
      rotate_left
      · rintro w' ⟨s0, s1, s2, s3, s4, s5, s6, s7⟩
        go_simp
        with_reducible rfl
      rotate_left
      · simp only [Act.put, List.setIfInBounds_toArray, List.set_cons_zero, List.set_cons_succ, i64_w, i32_w]
        rfl
      refine one_ (i := 6) (N := some 57) marksMw_7 rfl rfl (one_of HT_.out (by kernel_rfl)) (by decide) (fun K hK => ?_)
      refine goes_ Tryd.func13 (by kernel_rfl) rfl #[.int .i64 1, .int .i64 1] (by rfl) rfl rfl (by simp only [List.map_toArray, List.map_cons, List.map_nil]; rfl) ?_
      with_reducible refine (samphirelaw11_at.calls _ _ _ _ _ rfl).mono ?_
      rintro e w5 ⟨rfl, hb⟩
      refine ⟨_, rfl, ?_⟩
      replace HT := Aside0.mk (HT.out.below hb)
      replace HB := Aside0.mk (below_then HB.out HB.out.size hb)
      replace HX := Aside0.mk (blk_below HX.out hb)
      replace HZ := Aside0.mk (blk_below HZ.out hb)
      clear hb
      refine hK.out _ _ ⟨(blk_cell HX.out 0), (blk_cell HX.out 1), (blk_cell HX.out 2), (blk_cell HX.out 3), (blk_cell HX.out 4), (blk_cell HX.out 5), (blk_cell HZ.out 2), (blk_cell HZ.out 3)⟩ (fun hHeld => ?_)
      clear hK K
      refine norm_ (a' := ?_) ?_ ?_
      rotate_left
      · show Act.put _ (some 57) _ = _
        simp only [Act.put, List.setIfInBounds_toArray, List.set_cons_zero, List.set_cons_succ, i64_w, i32_w]
        rfl
      refine one_ (i := 7) (N := some 58) marksMw_8 rfl rfl (one_of HT_.out (by kernel_rfl)) (by decide) (fun K hK => ?_)
      refine goes_ Tryd.func13 (by kernel_rfl) rfl #[.int .i64 2, .int .i64 1] (by rfl) rfl rfl (by simp only [List.map_toArray, List.map_cons, List.map_nil]; rfl) ?_
      with_reducible refine (samphirelaw11_at.calls _ _ _ _ _ rfl).mono ?_
      rintro e w5 ⟨rfl, hb⟩
      refine ⟨_, rfl, ?_⟩
      replace HT := Aside0.mk (HT.out.below hb)
      replace HB := Aside0.mk (below_then HB.out HB.out.size hb)
      replace HX := Aside0.mk (blk_below HX.out hb)
      replace HZ := Aside0.mk (blk_below HZ.out hb)
      clear hb
      refine hK.out _ _ ⟨(blk_cell HX.out 0), (blk_cell HX.out 1), (blk_cell HX.out 2), (blk_cell HX.out 3), (blk_cell HX.out 4), (blk_cell HX.out 5), (blk_cell HZ.out 2), (blk_cell HZ.out 3)⟩ (fun hHeld => ?_)
      clear hK K
      refine norm_ (a' := ?_) ?_ ?_
      rotate_left
      · show Act.put _ (some 58) _ = _
        simp only [Act.put, List.setIfInBounds_toArray, List.set_cons_zero, List.set_cons_succ, i64_w, i32_w]
        rfl
      refine pureQ (i := 8) (N := some 59) marksMw_9 (any_of HT_.out (by kernel_rfl)) ?_
      refine pureQ (i := 9) (N := some 60) marksMw_10 (any_of HT_.out (by kernel_rfl)) ?_
      refine pureQ (i := 10) (N := some 61) marksMw_11 (any_of HT_.out (by kernel_rfl)) ?_
      refine pureQ (i := 11) (N := some 62) marksMw_12 (any_of HT_.out (by kernel_rfl)) ?_
      refine pureQ (i := 12) (N := some 63) marksMw_13 (any_of HT_.out (by kernel_rfl)) ?_
      refine pureQ (i := 14) (N := some 65) marksMw_14 (any_of HT_.out (by kernel_rfl)) ?_
      refine take_ (i := 13) (N := some 64) (v := ?_) (a' := ?_) marksMw_15 rfl rfl (take_ofW HT_.out HW_.out (by kernel_rfl)) (fun _ _ _ h => h) (Or.inl ⟨by rfl, ?_⟩) hHeld ?_ ?_
      rotate_left
      · rintro w' ⟨s0, s1, s2, s3, s4, s5, s6, s7⟩
        go_simp
        with_reducible rfl
      rotate_left
      · simp only [Act.put, List.setIfInBounds_toArray, List.set_cons_zero, List.set_cons_succ, i64_w, i32_w]
        rfl
      refine pureQ (i := 15) (N := some 66) marksMw_16 (any_of HT_.out (by kernel_rfl)) ?_
      refine pureQ (i := 16) (N := some 67) marksMw_17 (any_of HT_.out (by kernel_rfl)) ?_
      refine pureQ (i := 17) (N := some 68) marksMw_18 (any_of HT_.out (by kernel_rfl)) ?_
      refine pureQ (i := 18) (N := some 69) marksMw_19 (any_of HT_.out (by kernel_rfl)) ?_
      refine one_ (i := 19) (N := some 70) marksMw_20 rfl rfl (one_of HT_.out (by kernel_rfl)) (by decide) (fun K hK => ?_)
      refine goes_ Tryd.func17 (by kernel_rfl) rfl #[.pointer (some ⟨g, 0, none⟩)] (by rfl) rfl rfl (by simp only [List.map_toArray, List.map_cons, List.map_nil]; rfl) ?_
      with_reducible refine (Ops_calls _ _ g f n v T HT.out (by rw [hlen]; decide)).mono ?_
      rintro e w5 ⟨v1, rfl, ho, hb⟩
      obtain ⟨q1, c1, rfl, hq_⟩ := ops_four ho hlen HCELL.out
      refine ⟨_, rfl, ?_⟩
      replace HT := Aside0.mk (HT.out.below hb)
      replace HB := Aside0.mk (below_then HB.out HB.out.size hb)
      replace HX := Aside0.mk (blk_below HX.out hb)
      replace HZ := Aside0.mk (blk_below HZ.out hb)
      clear hb ho hq_
      refine hK.out _ _ ⟨(blk_cell HX.out 0), (blk_cell HX.out 1), (blk_cell HX.out 2), (blk_cell HX.out 3), (blk_cell HX.out 4), (blk_cell HX.out 5), (blk_cell HZ.out 2), (blk_cell HZ.out 3)⟩ (fun hHeld => ?_)
      clear hK K
      refine norm_ (a' := ?_) ?_ ?_
      rotate_left
      · show Act.put _ (some 70) _ = _
        simp only [Act.put, List.setIfInBounds_toArray, List.set_cons_zero, List.set_cons_succ, i64_w, i32_w]
        rfl
      refine pureQ (i := 20) (N := some 71) marksMw_21 (any_of HT_.out (by kernel_rfl)) ?_
      refine pureQ (i := 21) (N := some 72) marksMw_22 (any_of HT_.out (by kernel_rfl)) ?_
      refine pureQ (i := 22) (N := some 73) marksMw_23 (any_of HT_.out (by kernel_rfl)) ?_
      refine pureQ (i := 23) (N := some 74) marksMw_24 (any_of HT_.out (by kernel_rfl)) ?_
      refine pureQ (i := 24) (N := some 75) marksMw_25 (any_of HT_.out (by kernel_rfl)) ?_
      refine last_ (i := 25) (N := some 76) marksMw_26 rfl rfl (one_of HT_.out (by kernel_rfl)) (by decide) (fun K hK => ?_)
      refine goes_ Tryd.func17 (by kernel_rfl) rfl #[.pointer (some ⟨g, 0, none⟩)] (by rfl) rfl rfl (by simp only [List.map_toArray, List.map_cons, List.map_nil]; rfl) ?_
      with_reducible refine (Ops_calls _ _ g f n v T HT.out (by rw [hlen]; decide)).mono ?_
      rintro e w5 ⟨v1, rfl, ho, hb⟩
      obtain ⟨q1, c1, rfl, hq⟩ := ops_four ho hlen HCELL.out
      refine ⟨_, rfl, ?_⟩
      replace HT := Aside0.mk (HT.out.below hb)
      replace HB := Aside0.mk (below_then HB.out HB.out.size hb)
      replace HX := Aside0.mk (blk_below HX.out hb)
      replace HZ := Aside0.mk (blk_below HZ.out hb)
      clear hb ho
      refine hK.out _ _ ?_
      clear hK K
      refine norm_ (a' := ?_) ?_ ?_
      rotate_left
      · show Act.put _ (some 76) _ = _
        simp only [Act.put, List.setIfInBounds_toArray, List.set_cons_zero, List.set_cons_succ, i64_w, i32_w]
        rfl
      refine pureQ (i := 26) (N := some 77) marksMw_27 (any_of HT_.out (by kernel_rfl)) ?_
      refine pureQ (i := 27) (N := some 78) marksMw_28 (any_of HT_.out (by kernel_rfl)) ?_
      refine last_ (i := 28) (N := some 79) marksMw_29 rfl rfl (one_of HT_.out (by kernel_rfl)) (by decide) (fun K hK => ?_)
      refine value_ (w1 := ?_) (v := ?_) (by rfl) rfl ?_ ?_
      rotate_left 2
      · go_simp
        constructor
        · rfl
        · rfl
      refine hK.out _ _ ?_
      clear hK K
      refine norm_ (a' := ?_) ?_ ?_
      rotate_left
      · show Act.put _ (some 79) _ = _
        simp only [Act.put, List.setIfInBounds_toArray, List.set_cons_zero, List.set_cons_succ, i64_w, i32_w]
        rfl
      refine pureQ (i := 29) (N := some 80) marksMw_30 (any_of HT_.out (by kernel_rfl)) ?_
      refine pureQ (i := 30) (N := some 81) marksMw_31 (any_of HT_.out (by kernel_rfl)) ?_
      refine pureQ (i := 31) (N := some 82) marksMw_32 (any_of HT_.out (by kernel_rfl)) ?_
      refine pureQ (i := 32) (N := some 83) marksMw_33 (any_of HT_.out (by kernel_rfl)) ?_
      refine last_ (i := 33) (N := some 84) marksMw_34 rfl rfl (one_of HT_.out (by kernel_rfl)) (by decide) (fun K hK => ?_)
      refine goes_ Tryd.func13 (by kernel_rfl) rfl #[.int .i64 3, .int .i64 1] (by rfl) rfl rfl (by simp only [List.map_toArray, List.map_cons, List.map_nil]; rfl) ?_
      with_reducible refine (samphirelaw11_at.calls _ _ _ _ _ rfl).mono ?_
      rintro e w5 ⟨rfl, hb⟩
      refine ⟨_, rfl, ?_⟩
      replace HT := Aside0.mk (HT.out.below hb)
      replace HB := Aside0.mk (below_then HB.out HB.out.size hb)
      clear hb
      refine hK.out _ _ ?_
      clear hK K
      refine norm_ (a' := ?_) ?_ ?_
      rotate_left
      · show Act.put _ (some 84) _ = _
        simp only [Act.put, List.setIfInBounds_toArray, List.set_cons_zero, List.set_cons_succ, i64_w, i32_w]
        rfl
      refine last_ (i := 34) (N := some 85) marksMw_35 rfl rfl (one_of HT_.out (by kernel_rfl)) (by decide) (fun K hK => ?_)
      refine goes_ Tryd.func15 (by kernel_rfl) rfl #[.pointer (some ⟨g, 0, none⟩), .agg #[.int .i64 3, .int .i64 1]] (by rfl) rfl rfl (by simp only [List.map_toArray, List.map_cons, List.map_nil]; rfl) ?_
      with_reducible refine (Compact_calls _ _ g f n v T ⟨3, 1⟩ true HT.out HA.out.good HFIN.out).mono ?_
      rintro e w5 ⟨v', rfl, ht, hst, hown⟩
      refine ⟨_, rfl, ?_⟩
      replace HB := Aside0.mk (HT.out.back hst HB.out)
      have HT2 := Aside0.mk ht
      clear ht hst hown
      refine hK.out _ _ ?_
      clear hK K
      refine norm_ (a' := ?_) ?_ ?_
      rotate_left
      · show Act.put _ (some 85) _ = _
        simp only [Act.put, List.setIfInBounds_toArray, List.set_cons_zero, List.set_cons_succ, i64_w, i32_w]
        rfl
      refine pureQ (i := 35) (N := some 86) marksMw_36 (any_of HT_.out (by kernel_rfl)) ?_
      refine pureQ (i := 36) (N := some 87) marksMw_37 (any_of HT_.out (by kernel_rfl)) ?_
      refine pureQ (i := 37) (N := some 88) marksMw_38 (any_of HT_.out (by kernel_rfl)) ?_
      refine pureQ (i := 38) (N := some 89) marksMw_39 (any_of HT_.out (by kernel_rfl)) ?_
      refine last_ (i := 39) (N := some 90) marksMw_40 rfl rfl (one_of HT_.out (by kernel_rfl)) (by decide) (fun K hK => ?_)
      refine goes_ Tryd.func30 (by kernel_rfl) rfl #[.pointer (some ⟨g, 0, none⟩)] (by rfl) rfl rfl (by simp only [List.map_toArray, List.map_cons, List.map_nil]; rfl) ?_
      with_reducible refine (Fixed_calls _ _ g f n _ _ HT2.out (by rw [hfx]; decide)).mono ?_
      rintro e w5 ⟨v1, l1, rfl, hp, _, hn, hb⟩
      obtain ⟨q2, c2, rfl⟩ := nodes_two hn (hp.length_eq.trans hfx)
      refine ⟨_, rfl, ?_⟩
      replace HT2 := Aside0.mk (HT2.out.below hb)
      replace HB := Aside0.mk (below_then HB.out HB.out.size hb)
      clear hb hp hn
      refine hK.out _ _ ?_
      clear hK K
      refine norm_ (a' := ?_) ?_ ?_
      rotate_left
      · show Act.put _ (some 90) _ = _
        simp only [Act.put, List.setIfInBounds_toArray, List.set_cons_zero, List.set_cons_succ, i64_w, i32_w]
        rfl
      refine pureQ (i := 40) (N := some 91) marksMw_41 (any_of HT_.out (by kernel_rfl)) ?_
      refine pureQ (i := 41) (N := some 92) marksMw_42 (any_of HT_.out (by kernel_rfl)) ?_
      refine pureQ (i := 42) (N := some 93) marksMw_43 (any_of HT_.out (by kernel_rfl)) ?_
      refine pureQ (i := 43) (N := some 94) marksMw_44 (any_of HT_.out (by kernel_rfl)) ?_
      refine pureQ (i := 44) (N := some 95) marksMw_45 (any_of HT_.out (by kernel_rfl)) ?_
      refine last_ (i := 45) (N := some 96) marksMw_46 rfl rfl (one_of HT_.out (by kernel_rfl)) (by decide) (fun K hK => ?_)
      refine goes_ Tryd.func31 (by kernel_rfl) rfl #[.pointer (some ⟨g, 0, none⟩)] (by rfl) rfl rfl (by simp only [List.map_toArray, List.map_cons, List.map_nil]; rfl) ?_
      with_reducible refine (Base_calls _ _ g f n _ _ HT2.out).mono ?_
      rintro e w5 ⟨rfl, hb⟩
      rw [hbs]
      refine ⟨_, rfl, ?_⟩
      replace HT2 := Aside0.mk (HT2.out.below hb)
      replace HB := Aside0.mk (below_then HB.out HB.out.size hb)
      clear hb
      refine hK.out _ _ ?_
      clear hK K
      refine norm_ (a' := ?_) ?_ ?_
      rotate_left
      · show Act.put _ (some 96) _ = _
        simp only [Act.put, List.setIfInBounds_toArray, List.set_cons_zero, List.set_cons_succ, i64_w, i32_w]
        rfl
      refine last_ (i := 46) (N := some 97) marksMw_47 rfl rfl (one_of HT_.out (by kernel_rfl)) (by decide) (fun K hK => ?_)
      refine goes_ Tryd.func13 (by kernel_rfl) rfl #[.int .i64 3, .int .i64 1] (by rfl) rfl rfl (by simp only [List.map_toArray, List.map_cons, List.map_nil]; rfl) ?_
      with_reducible refine (samphirelaw11_at.calls _ _ _ _ _ rfl).mono ?_
      rintro e w5 ⟨rfl, hb⟩
      refine ⟨_, rfl, ?_⟩
      replace HT2 := Aside0.mk (HT2.out.below hb)
      replace HB := Aside0.mk (below_then HB.out HB.out.size hb)
      clear hb
      refine hK.out _ _ ?_
      clear hK K
      refine norm_ (a' := ?_) ?_ ?_
      rotate_left
      · show Act.put _ (some 97) _ = _
        simp only [Act.put, List.setIfInBounds_toArray, List.set_cons_zero, List.set_cons_succ, i64_w, i32_w]
        rfl
      refine pureQ (i := 47) (N := some 98) marksMw_48 (any_of HT_.out (by kernel_rfl)) ?_
      refine pureQ (i := 48) (N := some 99) marksMw_49 (any_of HT_.out (by kernel_rfl)) ?_
      refine pureQ (i := 49) (N := some 0) marksMw_50 (any_of HT_.out (by kernel_rfl)) ?_
      refine done_ (done_of HT_.out (by kernel_rfl)) ?_

      go_wp2
      go_ret
      exact ⟨rfl, HB.out⟩
end Go.Proofs.YtiffeljmeahmkaaDoor.S
