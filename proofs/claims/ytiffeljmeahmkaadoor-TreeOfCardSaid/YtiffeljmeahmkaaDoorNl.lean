/- utf8.ValidString at every text, by the shelf's contract, laid at this program. -/
import Derived.Test.YtiffeljmeahmkaaDoorProg
import Derived.Test.YtiffeljmeahmkaaDoorShp
namespace Go.Proofs
open Go.RowKit Go.Shelf Go.Lib
namespace YtiffeljmeahmkaaDoor.S
/-- The library's tables are as its text lays them. -/
def Laid (w : World) : Prop := Lib.Utf8Tabs (Tryd.laysValid_ren.g 3) (Tryd.laysValid_ren.g 4) w
theorem Laid.below {w w' : World} (h : Laid w) (hb : Below w.heap.size w w') : Laid w' := Utf8Tabs_below h hb
theorem valid_calls (s : ByteArray) (w : World) (hs : s.size ≤ 9223372036854775807) (hL : Laid w) :
    Calls Tryd.prog 65 #[.string s] w fun e w' => e = .returned (.bool (Lib.validD s.data.toList)) ∧ Below w.heap.size w w' :=
  Any.utf8_ValidString Tryd.laysValid s w hs hL
end YtiffeljmeahmkaaDoor.S
end Go.Proofs
