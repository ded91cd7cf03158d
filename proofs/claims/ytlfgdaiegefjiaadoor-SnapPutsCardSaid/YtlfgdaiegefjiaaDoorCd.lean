/- The library's tables at the beginning of a call, a world that lays them, and an operation (a struct of nine cells) as an argument: for the seat's cards. -/
import Derived.Test.YtlfgdaiegefjiaaDoorCards
import Derived.Test.YtlfgdaiegefjiaaDoorTie
import Derived.Test.YtlfgdaiegefjiaaDoorNL
import Derived.Lib.LaidIn
import Derived.Lib.LaidU8T
import Derived.PinnedBridge
import Derived.Deep.DeepHandedRow
import Derived.ProofKit
import Derived.SizedLaws
import Derived.WalkKit
import Derived.OpenShut
import Derived.ShutString
namespace Go.Proofs.YtlfgdaiegefjiaaDoor.S
open Go.RowKit Go.Lib Go.Shelf
theorem own : ownKnob Tryd.prog.godebug = none := by kernel_rfl
def laidList : List (String × DataW Unit) := [("unicode/utf8.acceptRanges", Rows.laid_unicode_utf8_acceptRanges), ("unicode/utf8.first", Rows.laid_unicode_utf8_first)]
theorem first_eq : Rows.laid_unicode_utf8_first = firstData := Pinned.utf8First_eq
theorem accept_eq : (Rows.laid_unicode_utf8_acceptRanges : DataW Unit) = acceptData := by kernel_rfl
/-- What the row's condition gives: the tables' cells. -/
theorem laid_of {W : World} (h : laidMetH Tryd.prog laidList W) : Laid W := by
 have h1 := Lib.laidMet.reads h (n := "unicode/utf8.first") (d := Rows.laid_unicode_utf8_first) (.tail _ (.head _))
 have h2 := Lib.laidMet.reads h (n := "unicode/utf8.acceptRanges") (d := Rows.laid_unicode_utf8_acceptRanges) (.head _)
 rw [first_eq] at h1
 rw [accept_eq] at h2
 exact utf8Tabs_of_readsT (U8Types.of196 Tryd.laysValid) ⟨by kernel_rfl, by kernel_rfl, by kernel_rfl, by kernel_rfl, by kernel_rfl, by kernel_rfl, by kernel_rfl⟩ h1 h2
def u8s (l : List Int) : Array Value := (l.map fun z => Value.int .u8 z).toArray
/-- The settled world, the listed variables holding what their initialisers lay. -/
noncomputable def laidWorld (os : Os) : World :=
 let w0 := World.holding Tryd.prog os ⟨#[], #[], []⟩
 let put (h : Array Obj) (g : Nat) (cs : Array Value) : Array Obj := h.modify g fun
  | .cells _ t frozen => .cells cs t frozen
  | o => o
 let h1 := put w0.heap 0 (u8s firstTab)
 let h2 := put h1 1 ((List.range 16).flatMap fun i => [Value.int .u8 (accLo i), Value.int .u8 (accHi i)]).toArray
 { w0 with heap := h2 }
theorem laid_met (os : Os) (args : Array Value) : laidMet Tryd.prog laidList ((laidWorld os).forCall (fun _ _ => 0) ⟨#[], args, []⟩).memory :=
 (LaidIn.of_run [1, 0] 8 (by kernel_rfl) (by kernel_rfl) (by kernel_rfl) (by kernel_rfl)).met
section
variable {H : Type} {enc : TypeId × Value → H} {w : World} {base : Nat} {sp : Nat → Bool} {held : Bool} {P : Program} {tI tT tS tO : TypeId}
theorem one_int (hI : P.underlying tI = some (.int .i64)) {fuel : Nat} {c : Value} {x : DataW H × List MemPlace} (h : DataW.trod enc P w base sp held fuel tI [c] = some x) : ∃ n, c = .int .i64 n ∧ x = (.lit (.int .i64 n), []) ∧ (Lit.int .i64 n).wf = true := by
 obtain ⟨n, h1, h2, h3⟩ := DataW.trod_int hI h
 exact ⟨n, List.head_eq_of_cons_eq h1, h2, h3⟩
theorem one_text (hT : P.underlying tT = some .string) {fuel : Nat} {c : Value} {x : DataW H × List MemPlace} (h : DataW.trod enc P w base sp held fuel tT [c] = some x) : ∃ s : ByteArray, c = .string s ∧ x = (.lit (.string s.data.toList), []) ∧ s.size ≤ maxLen := by
 obtain ⟨n, h1, h2, h3⟩ := DataW.trod_string hT h
 exact ⟨n, List.head_eq_of_cons_eq h1, h2, h3⟩
/-- A struct of two whole numbers. -/
def IsStamp (P : Program) (tI tS : TypeId) : Prop := P.underlying tI = some (.int .i64) ∧ P.cellsOf tI = 1 ∧ P.cellsOf tS = 2 ∧ ∃ n0 n1 g0 g1 k0 k1 b0 b1, P.underlying tS = some (.struct #[⟨n0, tI, 0, false, g0, k0, b0⟩, ⟨n1, tI, 1, false, g1, k1, b1⟩])
theorem one_stamp (hS : IsStamp P tI tS) {fuel : Nat} {c c' : Value} {x : DataW H × List MemPlace} (h : DataW.trod enc P w base sp held fuel tS [c, c'] = some x) :
 ∃ a b, c = .int .i64 a ∧ c' = .int .i64 b ∧ x = (.agg [.lit (.int .i64 a), .lit (.int .i64 b)], []) ∧ (Lit.int .i64 a).wf = true ∧ (Lit.int .i64 b).wf = true := by
 obtain ⟨hI, cI, cS, n0, n1, g0, g1, k0, k1, b0, b1, hu⟩ := hS
 cases fuel with
 | zero => simp [DataW.trod] at h
 | succ m =>
  unfold DataW.trod at h
  rw [hu] at h
  simp only [cI, cS, List.length_cons, List.length_nil, List.mapM_cons, List.mapM_nil, List.drop, List.take, if_true, Nat.zero_add, Nat.reduceAdd] at h
  cases h0 : DataW.trod enc P w base sp held m tI [c] with
  | none => simp [h0] at h
  | some x0 =>
   cases h1 : DataW.trod enc P w base sp held m tI [c'] with
   | none => simp [h0, h1] at h
   | some x1 =>
    obtain ⟨a, rfl, rfl, wa⟩ := one_int hI h0
    obtain ⟨b, rfl, rfl, wb⟩ := one_int hI h1
    simp [h0, h1] at h
    exact ⟨a, b, rfl, rfl, h.symm, wa, wb⟩
theorem int_one (hI : P.underlying tI = some (.int .i64)) {m : Nat} {a : Int} (wa : (Lit.int .i64 a).wf = true) : DataW.trod enc P w base sp held (m + 1) tI [.int .i64 a] = some (.lit (.int .i64 a), []) := by
 simp [DataW.trod, hI, wa]
theorem text_one (hT : P.underlying tT = some .string) {m : Nat} {s : ByteArray} (hs : s.size ≤ maxLen) : DataW.trod enc P w base sp held (m + 1) tT [.string s] = some (.lit (.string s.data.toList), []) := by
 simp [DataW.trod, hT, hs]
theorem stamp_one (hS : IsStamp P tI tS) {m : Nat} {a b : Int} (wa : (Lit.int .i64 a).wf = true) (wb : (Lit.int .i64 b).wf = true) : DataW.trod enc P w base sp held (m + 2) tS [.int .i64 a, .int .i64 b] = some (.agg [.lit (.int .i64 a), .lit (.int .i64 b)], []) := by
 obtain ⟨hI, cI, cS, n0, n1, g0, g1, k0, k1, b0, b1, hu⟩ := hS
 unfold DataW.trod
 rw [hu]
 simp [cI, cS, List.drop, List.take, int_one hI wa, int_one hI wb]
/-- api.Op: a number, three stamps, two texts. -/
def IsOp (P : Program) (tI tT tS tO : TypeId) : Prop := P.underlying tT = some .string ∧ P.cellsOf tT = 1 ∧ P.cellsOf tO = 9 ∧ ∃ (n : Fin 6 → String) (g : Fin 6 → String) (k : Fin 6 → String) (b : Fin 6 → Nat), P.underlying tO = some (.struct #[⟨n 0, tI, 0, false, g 0, k 0, b 0⟩, ⟨n 1, tS, 1, false, g 1, k 1, b 1⟩, ⟨n 2, tS, 3, false, g 2, k 2, b 2⟩, ⟨n 3, tS, 5, false, g 3, k 3, b 3⟩, ⟨n 4, tT, 7, false, g 4, k 4, b 4⟩, ⟨n 5, tT, 8, false, g 5, k 5, b 5⟩])
def opVals (k t1 w1 t2 w2 t3 w3 : Int) (nm vl : ByteArray) : List Value := [.int .i64 k, .int .i64 t1, .int .i64 w1, .int .i64 t2, .int .i64 w2, .int .i64 t3, .int .i64 w3, .string nm, .string vl]
def opData (k t1 w1 t2 w2 t3 w3 : Int) (nm vl : ByteArray) : DataW H := .agg [.lit (.int .i64 k), .agg [.lit (.int .i64 t1), .lit (.int .i64 w1)], .agg [.lit (.int .i64 t2), .lit (.int .i64 w2)], .agg [.lit (.int .i64 t3), .lit (.int .i64 w3)], .lit (.string nm.data.toList), .lit (.string vl.data.toList)]
theorem one_op (hS : IsStamp P tI tS) (hO : IsOp P tI tT tS tO) {fuel : Nat} {cs : List Value} (hcs : cs.length = 9) {x : DataW H × List MemPlace} (h : DataW.trod enc P w base sp held fuel tO cs = some x) :
 ∃ (k t1 w1 t2 w2 t3 w3 : Int) (nm vl : ByteArray), cs = opVals k t1 w1 t2 w2 t3 w3 nm vl ∧ x = (opData k t1 w1 t2 w2 t3 w3 nm vl, []) ∧
  (∀ (w' : World) (b' : Nat) (sp' : Nat → Bool) (held' : Bool) (m : Nat), DataW.trod enc P w' b' sp' held' (m + 3) tO cs = some x) := by
 have hI := hS.1
 have cI := hS.2.1
 have cS := hS.2.2.1
 obtain ⟨hT, cT, cO, n, g, kk, b, hu⟩ := hO
 match cs, hcs with
 | [c0, c1, c2, c3, c4, c5, c6, c7, c8], _ =>
  cases fuel with
  | zero => simp [DataW.trod] at h
  | succ m =>
   unfold DataW.trod at h
   rw [hu] at h
   simp only [cI, cS, cT, cO, List.length_cons, List.length_nil, List.mapM_cons, List.mapM_nil, List.drop, List.take, if_true, Nat.zero_add, Nat.reduceAdd] at h
   cases h0 : DataW.trod enc P w base sp held m tI [c0] with
   | none => simp [h0] at h
   | some x0 =>
   cases h1 : DataW.trod enc P w base sp held m tS [c1, c2] with
   | none => simp [h0, h1] at h
   | some x1 =>
   cases h2 : DataW.trod enc P w base sp held m tS [c3, c4] with
   | none => simp [h0, h1, h2] at h
   | some x2 =>
   cases h3 : DataW.trod enc P w base sp held m tS [c5, c6] with
   | none => simp [h0, h1, h2, h3] at h
   | some x3 =>
   cases h4 : DataW.trod enc P w base sp held m tT [c7] with
   | none => simp [h0, h1, h2, h3, h4] at h
   | some x4 =>
   cases h5 : DataW.trod enc P w base sp held m tT [c8] with
   | none => simp [h0, h1, h2, h3, h4, h5] at h
   | some x5 =>
   obtain ⟨k, rfl, rfl, wk⟩ := one_int hI h0
   obtain ⟨t1, w1, rfl, rfl, rfl, wt1, ww1⟩ := one_stamp hS h1
   obtain ⟨t2, w2, rfl, rfl, rfl, wt2, ww2⟩ := one_stamp hS h2
   obtain ⟨t3, w3, rfl, rfl, rfl, wt3, ww3⟩ := one_stamp hS h3
   obtain ⟨nm, rfl, rfl, wnm⟩ := one_text hT h4
   obtain ⟨vl, rfl, rfl, wvl⟩ := one_text hT h5
   simp [h0, h1, h2, h3, h4, h5] at h
   refine ⟨k, t1, w1, t2, w2, t3, w3, nm, vl, rfl, h.symm, fun w' b' sp' held' m' => ?_⟩
   subst h
   unfold DataW.trod
   rw [hu]
   simp [cI, cS, cT, cO, List.drop, List.take, stamp_one hS wt1 ww1, stamp_one hS wt2 ww2, stamp_one hS wt3 ww3, int_one hI wk, text_one hT wnm, text_one hT wvl]
end
theorem isStamp : IsStamp Tryd.prog 3 23 := ⟨Tryd.underlying3, by kernel_rfl, by kernel_rfl, _, _, _, _, _, _, _, _, Tryd.underlying23⟩
theorem isOp : IsOp Tryd.prog 3 9 23 25 := ⟨Tryd.underlying9, by kernel_rfl, by kernel_rfl, fun i => ["Kind", "At", "Node", "Parent", "Name", "Value"].getD i.val "", fun _ => "", fun _ => "", fun i => [0, 8, 24, 40, 56, 72].getD i.val 0, Tryd.underlying25⟩
end Go.Proofs.YtlfgdaiegefjiaaDoor.S
