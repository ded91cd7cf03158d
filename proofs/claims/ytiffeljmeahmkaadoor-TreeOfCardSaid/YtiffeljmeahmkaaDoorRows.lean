/-
  NARROWER THAN 'FOR EVERY INPUT', by the rows' own cells (each row's printed sentence says how): TreeFull: laid · TreeLast: laid · TreeTrash: laid · TreePlays: laid · TreeOrders: laid · TreeRooted: laid · TreeCompacts: laid · TreeNobody: laid · TreeOf: laid.
  DERIVED. THE GIVEN ROWS OF THIS SEAT. 9 by the template 'for every input the law returns true; each argument reads behind the call as it read before'; 0 by the template 'total and deterministic' (their statements: YtiffeljmeahmkaaDoorTotals.lean).
  GIVEN WITH THE SEED: the statements are not yours to turn. If you find one false, say at which input.
  Laid BY PROGRAM, IN A SANDBOX (cutbox-rows.mjs): the forced cells as the released guide's own fill.sh prints them over the translation 29d86b18d3127bdc… (all of the seat's roots in one cut). By AI agents, Wed Nov 11 2026. No macro, syntax, notation, axiom, sorry.
-/
import Derived.Test.YtiffeljmeahmkaaDoorChecked
import GoSem.PinnedTables
import GoSem.Claim
import GoSem.ClaimJoined
import GoSem.ClaimMapViews
import Derived.JoinedTies
import Derived.KernelRfl
namespace Go.Proofs.YtiffeljmeahmkaaDoor
/- THE CELL 'sum', in the pinned program and in every row, IS THE sha256 OF THE DUMP (.gsa) THAT YtiffeljmeahmkaaDoorProg.lean LOADS. Nothing in Lean hashes anything: it is a label: what it is worth is what the hold of that sum in a sandbox is worth. -/
noncomputable def Tryd.pinned : Pinned := { name := "ytiffeljmeahmkaadoor", sum := "29d86b18d3127bdc06ca421b8cf703cdd4d41f774c16ae9c05ccf28ff19b806e", checked := Tryd.checked }
namespace Rows
def none {H : Type} : Left H := { results := [], args := [] }

/- WHAT THE LISTED PACKAGE-LEVEL VARIABLES READ AS WHEN THE CALL BEGINS. Each datum BY PROGRAM (the guide's laid-datum.mjs) off the statement by which the dump's own 'gosem.cut.vars' lays the variable. In a bare row this is a premise. The card (YtiffeljmeahmkaaDoorCards.lean) ties it to the program's text. -/
def laid_unicode_utf8_acceptRanges {H : Type} : DataW H := .agg [.agg [.lit (.int .u8 128), .lit (.int .u8 191)], .agg [.lit (.int .u8 160), .lit (.int .u8 191)], .agg [.lit (.int .u8 128), .lit (.int .u8 159)], .agg [.lit (.int .u8 144), .lit (.int .u8 191)], .agg [.lit (.int .u8 128), .lit (.int .u8 143)], .agg [.lit (.int .u8 0), .lit (.int .u8 0)], .agg [.lit (.int .u8 0), .lit (.int .u8 0)], .agg [.lit (.int .u8 0), .lit (.int .u8 0)], .agg [.lit (.int .u8 0), .lit (.int .u8 0)], .agg [.lit (.int .u8 0), .lit (.int .u8 0)], .agg [.lit (.int .u8 0), .lit (.int .u8 0)], .agg [.lit (.int .u8 0), .lit (.int .u8 0)], .agg [.lit (.int .u8 0), .lit (.int .u8 0)], .agg [.lit (.int .u8 0), .lit (.int .u8 0)], .agg [.lit (.int .u8 0), .lit (.int .u8 0)], .agg [.lit (.int .u8 0), .lit (.int .u8 0)]]
/-- One of Go's own tables, pinned by name: the form's constant. -/
def laid_unicode_utf8_first : DataW Unit := Go.Pinned.utf8First

/-- 'samphirelaw11.TreeFull': WHATEVER THE INPUT: true; the input reads as it did. -/
def treeFullSpec : ChangeSpec := { name := "treeFull", fn := fun _ => fun
  | [d1, d2] => { results := [.lit (.bool true)], args := [d1, d2] }
  | _ => none }
def treeFullRow : OpenClaim := { program := "ytiffeljmeahmkaadoor", sum := "29d86b18d3127bdc06ca421b8cf703cdd4d41f774c16ae9c05ccf28ff19b806e", func := "samphire/samphirelaw11.TreeFull", spec := "treeFull", inPlace := ["slices.overlaps[samphire/api.Op]"], unfollowed := true, recurses := true, named := ["unicode/utf8.first", "unicode/utf8.acceptRanges"], plainKeys := false, apart := false, laid := [("unicode/utf8.acceptRanges", laid_unicode_utf8_acceptRanges), ("unicode/utf8.first", laid_unicode_utf8_first)] }
def TreeFullSaid : Prop := treeFullRow.holds Tryd.pinned (OpenSpec.ofChange treeFullSpec)

/-- ITS FALSE NEIGHBOUR: 'it returns false'. Refute it at one input. -/
def treeFullWrong : ChangeSpec := { name := "treeFull", fn := fun _ => fun
  | [d1, d2] => { results := [.lit (.bool false)], args := [d1, d2] }
  | _ => none }
def TreeFullWrongFalsely : Prop := treeFullRow.holds Tryd.pinned (OpenSpec.ofChange treeFullWrong)

/-- 'samphirelaw11.TreeLast': WHATEVER THE INPUT: true; the input reads as it did. -/
def treeLastSpec : ChangeSpec := { name := "treeLast", fn := fun _ => fun
  | [d1, d2, d3] => { results := [.lit (.bool true)], args := [d1, d2, d3] }
  | _ => none }
def treeLastRow : OpenClaim := { program := "ytiffeljmeahmkaadoor", sum := "29d86b18d3127bdc06ca421b8cf703cdd4d41f774c16ae9c05ccf28ff19b806e", func := "samphire/samphirelaw11.TreeLast", spec := "treeLast", inPlace := ["slices.overlaps[samphire/api.Op]"], unfollowed := true, recurses := true, named := ["unicode/utf8.first", "unicode/utf8.acceptRanges"], plainKeys := false, apart := false, laid := [("unicode/utf8.acceptRanges", laid_unicode_utf8_acceptRanges), ("unicode/utf8.first", laid_unicode_utf8_first)] }
def TreeLastSaid : Prop := treeLastRow.holds Tryd.pinned (OpenSpec.ofChange treeLastSpec)

/-- ITS FALSE NEIGHBOUR: 'it returns false'. Refute it at one input. -/
def treeLastWrong : ChangeSpec := { name := "treeLast", fn := fun _ => fun
  | [d1, d2, d3] => { results := [.lit (.bool false)], args := [d1, d2, d3] }
  | _ => none }
def TreeLastWrongFalsely : Prop := treeLastRow.holds Tryd.pinned (OpenSpec.ofChange treeLastWrong)

/-- 'samphirelaw11.TreeTrash': WHATEVER THE INPUT: true; the input reads as it did. -/
def treeTrashSpec : ChangeSpec := { name := "treeTrash", fn := fun _ => fun
  | [d1, d2, d3] => { results := [.lit (.bool true)], args := [d1, d2, d3] }
  | _ => none }
def treeTrashRow : OpenClaim := { program := "ytiffeljmeahmkaadoor", sum := "29d86b18d3127bdc06ca421b8cf703cdd4d41f774c16ae9c05ccf28ff19b806e", func := "samphire/samphirelaw11.TreeTrash", spec := "treeTrash", inPlace := ["slices.overlaps[samphire/api.Op]"], unfollowed := true, recurses := true, named := ["unicode/utf8.first", "unicode/utf8.acceptRanges"], plainKeys := false, apart := false, laid := [("unicode/utf8.acceptRanges", laid_unicode_utf8_acceptRanges), ("unicode/utf8.first", laid_unicode_utf8_first)] }
def TreeTrashSaid : Prop := treeTrashRow.holds Tryd.pinned (OpenSpec.ofChange treeTrashSpec)

/-- ITS FALSE NEIGHBOUR: 'it returns false'. Refute it at one input. -/
def treeTrashWrong : ChangeSpec := { name := "treeTrash", fn := fun _ => fun
  | [d1, d2, d3] => { results := [.lit (.bool false)], args := [d1, d2, d3] }
  | _ => none }
def TreeTrashWrongFalsely : Prop := treeTrashRow.holds Tryd.pinned (OpenSpec.ofChange treeTrashWrong)

/-- 'samphirelaw11.TreePlays': WHATEVER THE INPUT: true; the input reads as it did. -/
def treePlaysSpec : ChangeSpec := { name := "treePlays", fn := fun _ => fun
  | [d1, d2, d3] => { results := [.lit (.bool true)], args := [d1, d2, d3] }
  | _ => none }
def treePlaysRow : OpenClaim := { program := "ytiffeljmeahmkaadoor", sum := "29d86b18d3127bdc06ca421b8cf703cdd4d41f774c16ae9c05ccf28ff19b806e", func := "samphire/samphirelaw11.TreePlays", spec := "treePlays", inPlace := ["slices.overlaps[samphire/api.Op]"], unfollowed := true, recurses := true, named := ["unicode/utf8.first", "unicode/utf8.acceptRanges"], plainKeys := false, apart := false, laid := [("unicode/utf8.acceptRanges", laid_unicode_utf8_acceptRanges), ("unicode/utf8.first", laid_unicode_utf8_first)] }
def TreePlaysSaid : Prop := treePlaysRow.holds Tryd.pinned (OpenSpec.ofChange treePlaysSpec)

/-- ITS FALSE NEIGHBOUR: 'it returns false'. Refute it at one input. -/
def treePlaysWrong : ChangeSpec := { name := "treePlays", fn := fun _ => fun
  | [d1, d2, d3] => { results := [.lit (.bool false)], args := [d1, d2, d3] }
  | _ => none }
def TreePlaysWrongFalsely : Prop := treePlaysRow.holds Tryd.pinned (OpenSpec.ofChange treePlaysWrong)

/-- 'samphirelaw11.TreeOrders': WHATEVER THE INPUT: true; the input reads as it did. -/
def treeOrdersSpec : ChangeSpec := { name := "treeOrders", fn := fun _ => fun
  | [d1, d2] => { results := [.lit (.bool true)], args := [d1, d2] }
  | _ => none }
def treeOrdersRow : OpenClaim := { program := "ytiffeljmeahmkaadoor", sum := "29d86b18d3127bdc06ca421b8cf703cdd4d41f774c16ae9c05ccf28ff19b806e", func := "samphire/samphirelaw11.TreeOrders", spec := "treeOrders", inPlace := ["slices.overlaps[samphire/api.Op]"], unfollowed := true, recurses := true, named := ["unicode/utf8.first", "unicode/utf8.acceptRanges"], plainKeys := false, apart := false, laid := [("unicode/utf8.acceptRanges", laid_unicode_utf8_acceptRanges), ("unicode/utf8.first", laid_unicode_utf8_first)] }
def TreeOrdersSaid : Prop := treeOrdersRow.holds Tryd.pinned (OpenSpec.ofChange treeOrdersSpec)

/-- ITS FALSE NEIGHBOUR: 'it returns false'. Refute it at one input. -/
def treeOrdersWrong : ChangeSpec := { name := "treeOrders", fn := fun _ => fun
  | [d1, d2] => { results := [.lit (.bool false)], args := [d1, d2] }
  | _ => none }
def TreeOrdersWrongFalsely : Prop := treeOrdersRow.holds Tryd.pinned (OpenSpec.ofChange treeOrdersWrong)

/-- 'samphirelaw11.TreeRooted': WHATEVER THE INPUT: true; the input reads as it did. -/
def treeRootedSpec : ChangeSpec := { name := "treeRooted", fn := fun _ => fun
  | [d] => { results := [.lit (.bool true)], args := [d] }
  | _ => none }
def treeRootedRow : OpenClaim := { program := "ytiffeljmeahmkaadoor", sum := "29d86b18d3127bdc06ca421b8cf703cdd4d41f774c16ae9c05ccf28ff19b806e", func := "samphire/samphirelaw11.TreeRooted", spec := "treeRooted", inPlace := ["slices.overlaps[samphire/api.Op]"], unfollowed := true, recurses := true, named := ["unicode/utf8.first", "unicode/utf8.acceptRanges"], plainKeys := false, apart := false, laid := [("unicode/utf8.acceptRanges", laid_unicode_utf8_acceptRanges), ("unicode/utf8.first", laid_unicode_utf8_first)] }
def TreeRootedSaid : Prop := treeRootedRow.holds Tryd.pinned (OpenSpec.ofChange treeRootedSpec)

/-- ITS FALSE NEIGHBOUR: 'it returns false'. Refute it at one input. -/
def treeRootedWrong : ChangeSpec := { name := "treeRooted", fn := fun _ => fun
  | [d] => { results := [.lit (.bool false)], args := [d] }
  | _ => none }
def TreeRootedWrongFalsely : Prop := treeRootedRow.holds Tryd.pinned (OpenSpec.ofChange treeRootedWrong)

/-- 'samphirelaw11.TreeCompacts': WHATEVER THE INPUT: true; the input reads as it did. -/
def treeCompactsSpec : ChangeSpec := { name := "treeCompacts", fn := fun _ => fun
  | [d1, d2, d3] => { results := [.lit (.bool true)], args := [d1, d2, d3] }
  | _ => none }
def treeCompactsRow : OpenClaim := { program := "ytiffeljmeahmkaadoor", sum := "29d86b18d3127bdc06ca421b8cf703cdd4d41f774c16ae9c05ccf28ff19b806e", func := "samphire/samphirelaw11.TreeCompacts", spec := "treeCompacts", inPlace := ["slices.overlaps[samphire/api.Op]"], unfollowed := true, recurses := true, named := ["unicode/utf8.first", "unicode/utf8.acceptRanges"], plainKeys := false, apart := false, laid := [("unicode/utf8.acceptRanges", laid_unicode_utf8_acceptRanges), ("unicode/utf8.first", laid_unicode_utf8_first)] }
def TreeCompactsSaid : Prop := treeCompactsRow.holds Tryd.pinned (OpenSpec.ofChange treeCompactsSpec)

/-- ITS FALSE NEIGHBOUR: 'it returns false'. Refute it at one input. -/
def treeCompactsWrong : ChangeSpec := { name := "treeCompacts", fn := fun _ => fun
  | [d1, d2, d3] => { results := [.lit (.bool false)], args := [d1, d2, d3] }
  | _ => none }
def TreeCompactsWrongFalsely : Prop := treeCompactsRow.holds Tryd.pinned (OpenSpec.ofChange treeCompactsWrong)

/-- 'samphirelaw11.TreeNobody': WHATEVER THE INPUT: true; the input reads as it did. -/
def treeNobodySpec : ChangeSpec := { name := "treeNobody", fn := fun _ => fun
  | [d1, d2] => { results := [.lit (.bool true)], args := [d1, d2] }
  | _ => none }
def treeNobodyRow : OpenClaim := { program := "ytiffeljmeahmkaadoor", sum := "29d86b18d3127bdc06ca421b8cf703cdd4d41f774c16ae9c05ccf28ff19b806e", func := "samphire/samphirelaw11.TreeNobody", spec := "treeNobody", inPlace := ["slices.overlaps[samphire/api.Op]"], unfollowed := true, recurses := true, named := ["unicode/utf8.first", "unicode/utf8.acceptRanges"], plainKeys := false, apart := false, laid := [("unicode/utf8.acceptRanges", laid_unicode_utf8_acceptRanges), ("unicode/utf8.first", laid_unicode_utf8_first)] }
def TreeNobodySaid : Prop := treeNobodyRow.holds Tryd.pinned (OpenSpec.ofChange treeNobodySpec)

/-- ITS FALSE NEIGHBOUR: 'it returns false'. Refute it at one input. -/
def treeNobodyWrong : ChangeSpec := { name := "treeNobody", fn := fun _ => fun
  | [d1, d2] => { results := [.lit (.bool false)], args := [d1, d2] }
  | _ => none }
def TreeNobodyWrongFalsely : Prop := treeNobodyRow.holds Tryd.pinned (OpenSpec.ofChange treeNobodyWrong)

/-- 'samphirelaw11.TreeOf': WHATEVER THE INPUT: true; the input reads as it did. -/
def treeOfSpec : ChangeSpec := { name := "treeOf", fn := fun _ => fun
  | [d] => { results := [.lit (.bool true)], args := [d] }
  | _ => none }
def treeOfRow : OpenClaim := { program := "ytiffeljmeahmkaadoor", sum := "29d86b18d3127bdc06ca421b8cf703cdd4d41f774c16ae9c05ccf28ff19b806e", func := "samphire/samphirelaw11.TreeOf", spec := "treeOf", inPlace := ["slices.overlaps[samphire/api.Op]"], unfollowed := true, recurses := true, named := ["unicode/utf8.first", "unicode/utf8.acceptRanges"], plainKeys := false, apart := false, laid := [("unicode/utf8.acceptRanges", laid_unicode_utf8_acceptRanges), ("unicode/utf8.first", laid_unicode_utf8_first)] }
def TreeOfSaid : Prop := treeOfRow.holds Tryd.pinned (OpenSpec.ofChange treeOfSpec)

/-- ITS FALSE NEIGHBOUR: 'it returns false'. Refute it at one input. -/
def treeOfWrong : ChangeSpec := { name := "treeOf", fn := fun _ => fun
  | [d] => { results := [.lit (.bool false)], args := [d] }
  | _ => none }
def TreeOfWrongFalsely : Prop := treeOfRow.holds Tryd.pinned (OpenSpec.ofChange treeOfWrong)

/- THE SECOND FORM. 'bulk': how many values and letters a reading holds, each counted each time it is reached (what is shared counts as often as it is met; a slice's spare places count too). A statement '..UptoSaid' is the law's where the arguments, and the package variables that the reading takes, are together of bulk at most 1048576: NARROWER than '..Said'. Prove '..Said' where nothing that the law and all that it calls make is longer than what came in: it says more and counts as full. Else prove '..UptoSaid'. A law counts once. -/
mutual
def uptoBulk {H : Type} : DataW H → Nat
  | .lit (.string bytes) => bytes.length + 1
  | .lit _ => 1
  | .nil => 1
  | .ptr d => uptoBulk d + 1
  | .slice elems spare => uptoBulkAll elems + uptoBulkAll spare + 1
  | .agg parts => uptoBulkAll parts + 1
  | .iface _ d => uptoBulk d + 1
  | .map entries => uptoBulkEntries entries + 1
  | .held _ => 1
def uptoBulkAll {H : Type} : List (DataW H) → Nat
  | [] => 0
  | d :: r => uptoBulk d + uptoBulkAll r
def uptoBulkEntries {H : Type} : List (Lit × DataW H) → Nat
  | [] => 0
  | x :: r => uptoBulkEntry x + uptoBulkEntries r
def uptoBulkEntry {H : Type} : Lit × DataW H → Nat
  | (.string bytes, d) => bytes.length + uptoBulk d + 1
  | (_, d) => uptoBulk d + 1
 end
def uptoSmall : (H : Type) → List (DataW H) → Bool := fun _ ds => decide (uptoBulkAll ds ≤ 1048576)
def OpenSpec.upto (s : _root_.Go.ChangeSpec) : _root_.Go.OpenSpec := { _root_.Go.OpenSpec.ofChange s with cond := some uptoSmall }

/-- 'samphirelaw11.TreeFull', WHERE WHAT IT READS IS OF BULK AT MOST 1048576: true; the input reads as it did. -/
def treeFullUptoRow : OpenClaim := { program := "ytiffeljmeahmkaadoor", sum := "29d86b18d3127bdc06ca421b8cf703cdd4d41f774c16ae9c05ccf28ff19b806e", func := "samphire/samphirelaw11.TreeFull", spec := "treeFull", inPlace := ["slices.overlaps[samphire/api.Op]"], unfollowed := true, recurses := true, named := ["unicode/utf8.first", "unicode/utf8.acceptRanges"], plainKeys := false, apart := false, laid := [("unicode/utf8.acceptRanges", laid_unicode_utf8_acceptRanges), ("unicode/utf8.first", laid_unicode_utf8_first)], narrowed := true }
def TreeFullUptoSaid : Prop := treeFullUptoRow.holds Tryd.pinned (OpenSpec.upto treeFullSpec)

/-- 'samphirelaw11.TreeLast', WHERE WHAT IT READS IS OF BULK AT MOST 1048576: true; the input reads as it did. -/
def treeLastUptoRow : OpenClaim := { program := "ytiffeljmeahmkaadoor", sum := "29d86b18d3127bdc06ca421b8cf703cdd4d41f774c16ae9c05ccf28ff19b806e", func := "samphire/samphirelaw11.TreeLast", spec := "treeLast", inPlace := ["slices.overlaps[samphire/api.Op]"], unfollowed := true, recurses := true, named := ["unicode/utf8.first", "unicode/utf8.acceptRanges"], plainKeys := false, apart := false, laid := [("unicode/utf8.acceptRanges", laid_unicode_utf8_acceptRanges), ("unicode/utf8.first", laid_unicode_utf8_first)], narrowed := true }
def TreeLastUptoSaid : Prop := treeLastUptoRow.holds Tryd.pinned (OpenSpec.upto treeLastSpec)

/-- 'samphirelaw11.TreeTrash', WHERE WHAT IT READS IS OF BULK AT MOST 1048576: true; the input reads as it did. -/
def treeTrashUptoRow : OpenClaim := { program := "ytiffeljmeahmkaadoor", sum := "29d86b18d3127bdc06ca421b8cf703cdd4d41f774c16ae9c05ccf28ff19b806e", func := "samphire/samphirelaw11.TreeTrash", spec := "treeTrash", inPlace := ["slices.overlaps[samphire/api.Op]"], unfollowed := true, recurses := true, named := ["unicode/utf8.first", "unicode/utf8.acceptRanges"], plainKeys := false, apart := false, laid := [("unicode/utf8.acceptRanges", laid_unicode_utf8_acceptRanges), ("unicode/utf8.first", laid_unicode_utf8_first)], narrowed := true }
def TreeTrashUptoSaid : Prop := treeTrashUptoRow.holds Tryd.pinned (OpenSpec.upto treeTrashSpec)

/-- 'samphirelaw11.TreePlays', WHERE WHAT IT READS IS OF BULK AT MOST 1048576: true; the input reads as it did. -/
def treePlaysUptoRow : OpenClaim := { program := "ytiffeljmeahmkaadoor", sum := "29d86b18d3127bdc06ca421b8cf703cdd4d41f774c16ae9c05ccf28ff19b806e", func := "samphire/samphirelaw11.TreePlays", spec := "treePlays", inPlace := ["slices.overlaps[samphire/api.Op]"], unfollowed := true, recurses := true, named := ["unicode/utf8.first", "unicode/utf8.acceptRanges"], plainKeys := false, apart := false, laid := [("unicode/utf8.acceptRanges", laid_unicode_utf8_acceptRanges), ("unicode/utf8.first", laid_unicode_utf8_first)], narrowed := true }
def TreePlaysUptoSaid : Prop := treePlaysUptoRow.holds Tryd.pinned (OpenSpec.upto treePlaysSpec)

/-- 'samphirelaw11.TreeOrders', WHERE WHAT IT READS IS OF BULK AT MOST 1048576: true; the input reads as it did. -/
def treeOrdersUptoRow : OpenClaim := { program := "ytiffeljmeahmkaadoor", sum := "29d86b18d3127bdc06ca421b8cf703cdd4d41f774c16ae9c05ccf28ff19b806e", func := "samphire/samphirelaw11.TreeOrders", spec := "treeOrders", inPlace := ["slices.overlaps[samphire/api.Op]"], unfollowed := true, recurses := true, named := ["unicode/utf8.first", "unicode/utf8.acceptRanges"], plainKeys := false, apart := false, laid := [("unicode/utf8.acceptRanges", laid_unicode_utf8_acceptRanges), ("unicode/utf8.first", laid_unicode_utf8_first)], narrowed := true }
def TreeOrdersUptoSaid : Prop := treeOrdersUptoRow.holds Tryd.pinned (OpenSpec.upto treeOrdersSpec)

/-- 'samphirelaw11.TreeRooted', WHERE WHAT IT READS IS OF BULK AT MOST 1048576: true; the input reads as it did. -/
def treeRootedUptoRow : OpenClaim := { program := "ytiffeljmeahmkaadoor", sum := "29d86b18d3127bdc06ca421b8cf703cdd4d41f774c16ae9c05ccf28ff19b806e", func := "samphire/samphirelaw11.TreeRooted", spec := "treeRooted", inPlace := ["slices.overlaps[samphire/api.Op]"], unfollowed := true, recurses := true, named := ["unicode/utf8.first", "unicode/utf8.acceptRanges"], plainKeys := false, apart := false, laid := [("unicode/utf8.acceptRanges", laid_unicode_utf8_acceptRanges), ("unicode/utf8.first", laid_unicode_utf8_first)], narrowed := true }
def TreeRootedUptoSaid : Prop := treeRootedUptoRow.holds Tryd.pinned (OpenSpec.upto treeRootedSpec)

/-- 'samphirelaw11.TreeCompacts', WHERE WHAT IT READS IS OF BULK AT MOST 1048576: true; the input reads as it did. -/
def treeCompactsUptoRow : OpenClaim := { program := "ytiffeljmeahmkaadoor", sum := "29d86b18d3127bdc06ca421b8cf703cdd4d41f774c16ae9c05ccf28ff19b806e", func := "samphire/samphirelaw11.TreeCompacts", spec := "treeCompacts", inPlace := ["slices.overlaps[samphire/api.Op]"], unfollowed := true, recurses := true, named := ["unicode/utf8.first", "unicode/utf8.acceptRanges"], plainKeys := false, apart := false, laid := [("unicode/utf8.acceptRanges", laid_unicode_utf8_acceptRanges), ("unicode/utf8.first", laid_unicode_utf8_first)], narrowed := true }
def TreeCompactsUptoSaid : Prop := treeCompactsUptoRow.holds Tryd.pinned (OpenSpec.upto treeCompactsSpec)

/-- 'samphirelaw11.TreeNobody', WHERE WHAT IT READS IS OF BULK AT MOST 1048576: true; the input reads as it did. -/
def treeNobodyUptoRow : OpenClaim := { program := "ytiffeljmeahmkaadoor", sum := "29d86b18d3127bdc06ca421b8cf703cdd4d41f774c16ae9c05ccf28ff19b806e", func := "samphire/samphirelaw11.TreeNobody", spec := "treeNobody", inPlace := ["slices.overlaps[samphire/api.Op]"], unfollowed := true, recurses := true, named := ["unicode/utf8.first", "unicode/utf8.acceptRanges"], plainKeys := false, apart := false, laid := [("unicode/utf8.acceptRanges", laid_unicode_utf8_acceptRanges), ("unicode/utf8.first", laid_unicode_utf8_first)], narrowed := true }
def TreeNobodyUptoSaid : Prop := treeNobodyUptoRow.holds Tryd.pinned (OpenSpec.upto treeNobodySpec)

/-- 'samphirelaw11.TreeOf', WHERE WHAT IT READS IS OF BULK AT MOST 1048576: true; the input reads as it did. -/
def treeOfUptoRow : OpenClaim := { program := "ytiffeljmeahmkaadoor", sum := "29d86b18d3127bdc06ca421b8cf703cdd4d41f774c16ae9c05ccf28ff19b806e", func := "samphire/samphirelaw11.TreeOf", spec := "treeOf", inPlace := ["slices.overlaps[samphire/api.Op]"], unfollowed := true, recurses := true, named := ["unicode/utf8.first", "unicode/utf8.acceptRanges"], plainKeys := false, apart := false, laid := [("unicode/utf8.acceptRanges", laid_unicode_utf8_acceptRanges), ("unicode/utf8.first", laid_unicode_utf8_first)], narrowed := true }
def TreeOfUptoSaid : Prop := treeOfUptoRow.holds Tryd.pinned (OpenSpec.upto treeOfSpec)

end Rows
end Go.Proofs.YtiffeljmeahmkaaDoor
