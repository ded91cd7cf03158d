/-
  NARROWER THAN 'FOR EVERY INPUT', by the rows' own cells (each row's printed sentence says how): SnapOps: laid · SnapPuts: laid · SnapTakes: laid · SnapTrees: laid · SnapCuts: laid.
  DERIVED. THE GIVEN ROWS OF THIS SEAT. 5 by the template 'for every input the law returns true; each argument reads behind the call as it read before'; 0 by the template 'total and deterministic' (their statements: YtlfgdaiegefjiaaDoorTotals.lean).
  GIVEN WITH THE SEED: the statements are not yours to turn. If you find one false, say at which input.
  Laid BY PROGRAM, IN A SANDBOX (cutbox-rows.mjs): the forced cells as the released guide's own fill.sh prints them over the translation 2259b80a1ed8721b… (all of the seat's roots in one cut). By AI agents, Wed Nov 11 2026. No macro, syntax, notation, axiom, sorry.
-/
import Derived.Test.YtlfgdaiegefjiaaDoorChecked
import GoSem.PinnedTables
import GoSem.Claim
import GoSem.ClaimJoined
import GoSem.ClaimMapViews
import Derived.JoinedTies
import Derived.KernelRfl
namespace Go.Proofs.YtlfgdaiegefjiaaDoor
/- THE CELL 'sum', in the pinned program and in every row, IS THE sha256 OF THE DUMP (.gsa) THAT YtlfgdaiegefjiaaDoorProg.lean LOADS. Nothing in Lean hashes anything: it is a label: what it is worth is what the hold of that sum in a sandbox is worth. -/
noncomputable def Tryd.pinned : Pinned := { name := "ytlfgdaiegefjiaadoor", sum := "2259b80a1ed8721b7cfdc69827c59570375d59fdd8b2a07b1b45015d891825e5", checked := Tryd.checked }
namespace Rows
def none {H : Type} : Left H := { results := [], args := [] }

/- WHAT THE LISTED PACKAGE-LEVEL VARIABLES READ AS WHEN THE CALL BEGINS. Each datum BY PROGRAM (the guide's laid-datum.mjs) off the statement by which the dump's own 'gosem.cut.vars' lays the variable. In a bare row this is a premise. The card (YtlfgdaiegefjiaaDoorCards.lean) ties it to the program's text. -/
def laid_unicode_utf8_acceptRanges {H : Type} : DataW H := .agg [.agg [.lit (.int .u8 128), .lit (.int .u8 191)], .agg [.lit (.int .u8 160), .lit (.int .u8 191)], .agg [.lit (.int .u8 128), .lit (.int .u8 159)], .agg [.lit (.int .u8 144), .lit (.int .u8 191)], .agg [.lit (.int .u8 128), .lit (.int .u8 143)], .agg [.lit (.int .u8 0), .lit (.int .u8 0)], .agg [.lit (.int .u8 0), .lit (.int .u8 0)], .agg [.lit (.int .u8 0), .lit (.int .u8 0)], .agg [.lit (.int .u8 0), .lit (.int .u8 0)], .agg [.lit (.int .u8 0), .lit (.int .u8 0)], .agg [.lit (.int .u8 0), .lit (.int .u8 0)], .agg [.lit (.int .u8 0), .lit (.int .u8 0)], .agg [.lit (.int .u8 0), .lit (.int .u8 0)], .agg [.lit (.int .u8 0), .lit (.int .u8 0)], .agg [.lit (.int .u8 0), .lit (.int .u8 0)], .agg [.lit (.int .u8 0), .lit (.int .u8 0)]]
/-- One of Go's own tables, pinned by name: the form's constant. -/
def laid_unicode_utf8_first : DataW Unit := Go.Pinned.utf8First

/-- 'samphirelaw13.SnapOps': WHATEVER THE INPUT: true; the input reads as it did. -/
def snapOpsSpec : ChangeSpec := { name := "snapOps", fn := fun _ => fun
  | [d1, d2] => { results := [.lit (.bool true)], args := [d1, d2] }
  | _ => none }
def snapOpsRow : OpenClaim := { program := "ytlfgdaiegefjiaadoor", sum := "2259b80a1ed8721b7cfdc69827c59570375d59fdd8b2a07b1b45015d891825e5", func := "samphire/samphirelaw13.SnapOps", spec := "snapOps", inPlace := ["slices.overlaps[samphire/api.Op]"], unfollowed := true, recurses := true, named := ["unicode/utf8.first", "unicode/utf8.acceptRanges"], plainKeys := false, apart := false, laid := [("unicode/utf8.acceptRanges", laid_unicode_utf8_acceptRanges), ("unicode/utf8.first", laid_unicode_utf8_first)] }
def SnapOpsSaid : Prop := snapOpsRow.holds Tryd.pinned (OpenSpec.ofChange snapOpsSpec)

/-- ITS FALSE NEIGHBOUR: 'it returns false'. Refute it at one input. -/
def snapOpsWrong : ChangeSpec := { name := "snapOps", fn := fun _ => fun
  | [d1, d2] => { results := [.lit (.bool false)], args := [d1, d2] }
  | _ => none }
def SnapOpsWrongFalsely : Prop := snapOpsRow.holds Tryd.pinned (OpenSpec.ofChange snapOpsWrong)

/-- 'samphirelaw13.SnapPuts': WHATEVER THE INPUT: true; the input reads as it did. -/
def snapPutsSpec : ChangeSpec := { name := "snapPuts", fn := fun _ => fun
  | [d] => { results := [.lit (.bool true)], args := [d] }
  | _ => none }
def snapPutsRow : OpenClaim := { program := "ytlfgdaiegefjiaadoor", sum := "2259b80a1ed8721b7cfdc69827c59570375d59fdd8b2a07b1b45015d891825e5", func := "samphire/samphirelaw13.SnapPuts", spec := "snapPuts", inPlace := ["slices.overlaps[samphire/api.Op]"], unfollowed := true, recurses := true, named := ["unicode/utf8.first", "unicode/utf8.acceptRanges"], plainKeys := false, apart := false, laid := [("unicode/utf8.acceptRanges", laid_unicode_utf8_acceptRanges), ("unicode/utf8.first", laid_unicode_utf8_first)] }
def SnapPutsSaid : Prop := snapPutsRow.holds Tryd.pinned (OpenSpec.ofChange snapPutsSpec)

/-- ITS FALSE NEIGHBOUR: 'it returns false'. Refute it at one input. -/
def snapPutsWrong : ChangeSpec := { name := "snapPuts", fn := fun _ => fun
  | [d] => { results := [.lit (.bool false)], args := [d] }
  | _ => none }
def SnapPutsWrongFalsely : Prop := snapPutsRow.holds Tryd.pinned (OpenSpec.ofChange snapPutsWrong)

/-- 'samphirelaw13.SnapTakes': WHATEVER THE INPUT: true; the input reads as it did. -/
def snapTakesSpec : ChangeSpec := { name := "snapTakes", fn := fun _ => fun
  | [d] => { results := [.lit (.bool true)], args := [d] }
  | _ => none }
def snapTakesRow : OpenClaim := { program := "ytlfgdaiegefjiaadoor", sum := "2259b80a1ed8721b7cfdc69827c59570375d59fdd8b2a07b1b45015d891825e5", func := "samphire/samphirelaw13.SnapTakes", spec := "snapTakes", inPlace := ["slices.overlaps[samphire/api.Op]"], unfollowed := true, recurses := true, named := ["unicode/utf8.first", "unicode/utf8.acceptRanges"], plainKeys := false, apart := false, laid := [("unicode/utf8.acceptRanges", laid_unicode_utf8_acceptRanges), ("unicode/utf8.first", laid_unicode_utf8_first)] }
def SnapTakesSaid : Prop := snapTakesRow.holds Tryd.pinned (OpenSpec.ofChange snapTakesSpec)

/-- ITS FALSE NEIGHBOUR: 'it returns false'. Refute it at one input. -/
def snapTakesWrong : ChangeSpec := { name := "snapTakes", fn := fun _ => fun
  | [d] => { results := [.lit (.bool false)], args := [d] }
  | _ => none }
def SnapTakesWrongFalsely : Prop := snapTakesRow.holds Tryd.pinned (OpenSpec.ofChange snapTakesWrong)

/-- 'samphirelaw13.SnapTrees': WHATEVER THE INPUT: true; the input reads as it did. -/
def snapTreesSpec : ChangeSpec := { name := "snapTrees", fn := fun _ => fun
  | [d1, d2] => { results := [.lit (.bool true)], args := [d1, d2] }
  | _ => none }
def snapTreesRow : OpenClaim := { program := "ytlfgdaiegefjiaadoor", sum := "2259b80a1ed8721b7cfdc69827c59570375d59fdd8b2a07b1b45015d891825e5", func := "samphire/samphirelaw13.SnapTrees", spec := "snapTrees", inPlace := ["slices.overlaps[samphire/api.Op]"], unfollowed := true, recurses := true, named := ["unicode/utf8.first", "unicode/utf8.acceptRanges"], plainKeys := false, apart := false, laid := [("unicode/utf8.acceptRanges", laid_unicode_utf8_acceptRanges), ("unicode/utf8.first", laid_unicode_utf8_first)] }
def SnapTreesSaid : Prop := snapTreesRow.holds Tryd.pinned (OpenSpec.ofChange snapTreesSpec)

/-- ITS FALSE NEIGHBOUR: 'it returns false'. Refute it at one input. -/
def snapTreesWrong : ChangeSpec := { name := "snapTrees", fn := fun _ => fun
  | [d1, d2] => { results := [.lit (.bool false)], args := [d1, d2] }
  | _ => none }
def SnapTreesWrongFalsely : Prop := snapTreesRow.holds Tryd.pinned (OpenSpec.ofChange snapTreesWrong)

/-- 'samphirelaw13.SnapCuts': WHATEVER THE INPUT: true; the input reads as it did. -/
def snapCutsSpec : ChangeSpec := { name := "snapCuts", fn := fun _ => fun
  | [d1, d2, d3] => { results := [.lit (.bool true)], args := [d1, d2, d3] }
  | _ => none }
def snapCutsRow : OpenClaim := { program := "ytlfgdaiegefjiaadoor", sum := "2259b80a1ed8721b7cfdc69827c59570375d59fdd8b2a07b1b45015d891825e5", func := "samphire/samphirelaw13.SnapCuts", spec := "snapCuts", inPlace := ["slices.overlaps[samphire/api.Op]"], unfollowed := true, recurses := true, named := ["unicode/utf8.first", "unicode/utf8.acceptRanges"], plainKeys := false, apart := false, laid := [("unicode/utf8.acceptRanges", laid_unicode_utf8_acceptRanges), ("unicode/utf8.first", laid_unicode_utf8_first)] }
def SnapCutsSaid : Prop := snapCutsRow.holds Tryd.pinned (OpenSpec.ofChange snapCutsSpec)

/-- ITS FALSE NEIGHBOUR: 'it returns false'. Refute it at one input. -/
def snapCutsWrong : ChangeSpec := { name := "snapCuts", fn := fun _ => fun
  | [d1, d2, d3] => { results := [.lit (.bool false)], args := [d1, d2, d3] }
  | _ => none }
def SnapCutsWrongFalsely : Prop := snapCutsRow.holds Tryd.pinned (OpenSpec.ofChange snapCutsWrong)

/- THE SECOND FORM. 'bulk': how many values and letters a reading holds, each counted each time it is reached (what is shared counts as often as it is met; a slice's spare places count too). A statement '..UptoSaid' is the law's where the arguments, and the package variables that the reading takes, are together of bulk at most 1048576: NARROWER than '..Said'. Prove '..Said' where nothing that the law and all that it calls make is longer than what came in: it says more and counts as full. Else prove '..UptoSaid'. A law counts once. -/
mutual
def uptoBulk {H : Type} : DataW H → Nat
  | .lit (.string bytes) => bytes.length + 1
  | .lit _ => 1
  | .nil => 1
  | .ptr d => uptoBulk d + 1
  | .slice elems spare => uptoBulkAll elems + uptoBulkAll spare + 1
  | .agg parts => uptoBulkAll parts + 1
  | .iface _ d => uptoBulk d + 1
  | .map entries => uptoBulkEntries entries + 1
  | .held _ => 1
def uptoBulkAll {H : Type} : List (DataW H) → Nat
  | [] => 0
  | d :: r => uptoBulk d + uptoBulkAll r
def uptoBulkEntries {H : Type} : List (Lit × DataW H) → Nat
  | [] => 0
  | x :: r => uptoBulkEntry x + uptoBulkEntries r
def uptoBulkEntry {H : Type} : Lit × DataW H → Nat
  | (.string bytes, d) => bytes.length + uptoBulk d + 1
  | (_, d) => uptoBulk d + 1
 end
def uptoSmall : (H : Type) → List (DataW H) → Bool := fun _ ds => decide (uptoBulkAll ds ≤ 1048576)
def OpenSpec.upto (s : _root_.Go.ChangeSpec) : _root_.Go.OpenSpec := { _root_.Go.OpenSpec.ofChange s with cond := some uptoSmall }

/-- 'samphirelaw13.SnapOps', WHERE WHAT IT READS IS OF BULK AT MOST 1048576: true; the input reads as it did. -/
def snapOpsUptoRow : OpenClaim := { program := "ytlfgdaiegefjiaadoor", sum := "2259b80a1ed8721b7cfdc69827c59570375d59fdd8b2a07b1b45015d891825e5", func := "samphire/samphirelaw13.SnapOps", spec := "snapOps", inPlace := ["slices.overlaps[samphire/api.Op]"], unfollowed := true, recurses := true, named := ["unicode/utf8.first", "unicode/utf8.acceptRanges"], plainKeys := false, apart := false, laid := [("unicode/utf8.acceptRanges", laid_unicode_utf8_acceptRanges), ("unicode/utf8.first", laid_unicode_utf8_first)], narrowed := true }
def SnapOpsUptoSaid : Prop := snapOpsUptoRow.holds Tryd.pinned (OpenSpec.upto snapOpsSpec)

/-- 'samphirelaw13.SnapPuts', WHERE WHAT IT READS IS OF BULK AT MOST 1048576: true; the input reads as it did. -/
def snapPutsUptoRow : OpenClaim := { program := "ytlfgdaiegefjiaadoor", sum := "2259b80a1ed8721b7cfdc69827c59570375d59fdd8b2a07b1b45015d891825e5", func := "samphire/samphirelaw13.SnapPuts", spec := "snapPuts", inPlace := ["slices.overlaps[samphire/api.Op]"], unfollowed := true, recurses := true, named := ["unicode/utf8.first", "unicode/utf8.acceptRanges"], plainKeys := false, apart := false, laid := [("unicode/utf8.acceptRanges", laid_unicode_utf8_acceptRanges), ("unicode/utf8.first", laid_unicode_utf8_first)], narrowed := true }
def SnapPutsUptoSaid : Prop := snapPutsUptoRow.holds Tryd.pinned (OpenSpec.upto snapPutsSpec)

/-- 'samphirelaw13.SnapTakes', WHERE WHAT IT READS IS OF BULK AT MOST 1048576: true; the input reads as it did. -/
def snapTakesUptoRow : OpenClaim := { program := "ytlfgdaiegefjiaadoor", sum := "2259b80a1ed8721b7cfdc69827c59570375d59fdd8b2a07b1b45015d891825e5", func := "samphire/samphirelaw13.SnapTakes", spec := "snapTakes", inPlace := ["slices.overlaps[samphire/api.Op]"], unfollowed := true, recurses := true, named := ["unicode/utf8.first", "unicode/utf8.acceptRanges"], plainKeys := false, apart := false, laid := [("unicode/utf8.acceptRanges", laid_unicode_utf8_acceptRanges), ("unicode/utf8.first", laid_unicode_utf8_first)], narrowed := true }
def SnapTakesUptoSaid : Prop := snapTakesUptoRow.holds Tryd.pinned (OpenSpec.upto snapTakesSpec)

/-- 'samphirelaw13.SnapTrees', WHERE WHAT IT READS IS OF BULK AT MOST 1048576: true; the input reads as it did. -/
def snapTreesUptoRow : OpenClaim := { program := "ytlfgdaiegefjiaadoor", sum := "2259b80a1ed8721b7cfdc69827c59570375d59fdd8b2a07b1b45015d891825e5", func := "samphire/samphirelaw13.SnapTrees", spec := "snapTrees", inPlace := ["slices.overlaps[samphire/api.Op]"], unfollowed := true, recurses := true, named := ["unicode/utf8.first", "unicode/utf8.acceptRanges"], plainKeys := false, apart := false, laid := [("unicode/utf8.acceptRanges", laid_unicode_utf8_acceptRanges), ("unicode/utf8.first", laid_unicode_utf8_first)], narrowed := true }
def SnapTreesUptoSaid : Prop := snapTreesUptoRow.holds Tryd.pinned (OpenSpec.upto snapTreesSpec)

/-- 'samphirelaw13.SnapCuts', WHERE WHAT IT READS IS OF BULK AT MOST 1048576: true; the input reads as it did. -/
def snapCutsUptoRow : OpenClaim := { program := "ytlfgdaiegefjiaadoor", sum := "2259b80a1ed8721b7cfdc69827c59570375d59fdd8b2a07b1b45015d891825e5", func := "samphire/samphirelaw13.SnapCuts", spec := "snapCuts", inPlace := ["slices.overlaps[samphire/api.Op]"], unfollowed := true, recurses := true, named := ["unicode/utf8.first", "unicode/utf8.acceptRanges"], plainKeys := false, apart := false, laid := [("unicode/utf8.acceptRanges", laid_unicode_utf8_acceptRanges), ("unicode/utf8.first", laid_unicode_utf8_first)], narrowed := true }
def SnapCutsUptoSaid : Prop := snapCutsUptoRow.holds Tryd.pinned (OpenSpec.upto snapCutsSpec)

end Rows
end Go.Proofs.YtlfgdaiegefjiaaDoor
