/-
 DERIVED: THE SHELF's CONTRACTS AT THIS DUMP, IN PLAIN WORDS (tools/lay-plain.mjs out of 'YtlfgdaiegefjiaaDoorSh.lean', which tools/lay-shelf.mjs wrote): THE SAME DECLARATIONS UNDER THE SAME NAMES: 'import', 'namespace', 'open', 'def', 'theorem' AND NOTHING ELSE: no command of the shelf's: FOR A HAND-IN. Each laying: the table of numbers ('.._ren') and one theorem, a field a fact of the dump's own or the kernel's comparison; each contract: ONE APPLICATION.
-/
import Derived.Test.YtlfgdaiegefjiaaDoorProg
import Derived.Ground.NamesProg
import Derived.WalkKit
import Derived.WalkMore
import Derived.Below
import Derived.Shelf.Unicode.ValidAny
namespace Go.Proofs
open Go.Shelf
def Tryd.laysValid_ren : Go.Shelf.Ren := ⟨fun | 196 => 88 | 259 => 97 | n => n, fun | 9 => 9 | 4 => 4 | 3 => 3 | 5 => 5 | 12 => 12 | 119 => 144 | 0 => 0 | 46 => 142 | 139 => 147 | 138 => 146 | 53 => 153 | n => n, fun | 3 => 0 | 4 => 1 | n => n⟩
theorem Tryd.laysValid : Go.Proofs.Lays.n196 Tryd.prog Tryd.laysValid_ren := {
 mixed := by kernel_rfl
 f196 := Tryd.func88.trans (congrArg some (by kernel_rfl))
 f259 := Tryd.func97.trans (congrArg some (by kernel_rfl))
 t0 := Tryd.underlying0
 a0 := Tryd.isAgg0
 z0 := Tryd.sizeOf0
 v0 := Tryd.zeroValue0
 t3 := Tryd.underlying3
 a3 := Tryd.isAgg3
 z3 := Tryd.sizeOf3
 v3 := Tryd.zeroValue3
 t4 := Tryd.underlying4
 a4 := Tryd.isAgg4
 z4 := Tryd.sizeOf4
 v4 := Tryd.zeroValue4
 t5 := Tryd.underlying5
 a5 := Tryd.isAgg5
 z5 := Tryd.sizeOf5
 v5 := Tryd.zeroValue5
 t9 := Tryd.underlying9
 a9 := Tryd.isAgg9
 z9 := Tryd.sizeOf9
 v9 := Tryd.zeroValue9
 t12 := Tryd.underlying12
 a12 := Tryd.isAgg12
 z12 := Tryd.sizeOf12
 v12 := Tryd.zeroValue12
 t46 := Tryd.underlying142
 a46 := Tryd.isAgg142
 z46 := Tryd.sizeOf142
 v46 := Tryd.zeroValue142
 t53 := Tryd.underlying153
 a53 := Tryd.isAgg153
 z53 := Tryd.sizeOf153
 v53 := Tryd.zeroValue153
 t119 := Tryd.underlying144
 a119 := Tryd.isAgg144
 z119 := Tryd.sizeOf144
 t138 := Tryd.underlying146
 a138 := Tryd.isAgg146
 z138 := Tryd.sizeOf146
 v138 := Tryd.zeroValue146
 t139 := Tryd.underlying147
 a139 := Tryd.isAgg147
 z139 := Tryd.sizeOf147
 v139 := Tryd.zeroValue147
 g3 := by kernel_rfl
 g4 := by kernel_rfl }
end Go.Proofs
/- utf8.ValidString at every text, by the shelf's contract, laid at this program. -/
namespace Go.Proofs
open Go.RowKit Go.Shelf Go.Lib
namespace YtlfgdaiegefjiaaDoor.S
/-- The library's tables are as its text lays them. -/
def Laid (w : World) : Prop := Lib.Utf8Tabs (Tryd.laysValid_ren.g 3) (Tryd.laysValid_ren.g 4) w
theorem Laid.below {w w' : World} (h : Laid w) (hb : Below w.heap.size w w') : Laid w' := Utf8Tabs_below h hb
theorem valid_calls (s : ByteArray) (w : World) (hs : s.size ≤ 9223372036854775807) (hL : Laid w) :
 Calls Tryd.prog 88 #[.string s] w fun e w' => e = .returned (.bool (Lib.validD s.data.toList)) ∧ Below w.heap.size w w' :=
 Any.utf8_ValidString Tryd.laysValid s w hs hL
end YtlfgdaiegefjiaaDoor.S
end Go.Proofs
