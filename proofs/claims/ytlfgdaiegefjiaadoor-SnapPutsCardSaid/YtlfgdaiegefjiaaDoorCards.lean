/-
  DERIVED. GIVEN WITH THE SEED: THE CARDS: each row of YtlfgdaiegefjiaaDoorRows.lean that lists a variable, with what it lists TIED to the program's text (the seventh form; the later family's looks); each row that meets fmt, with fmt's text TOLD by the authors' own Lean function (tested against real Go, not proved from fmt's source: count such statements apart). THE CARD IS WHAT COUNTS. Prove the row's statement (the work); the ties are given (YtlfgdaiegefjiaaDoorTie.lean); close each card by the builder's one call (the guide's Derived/Test/ToyasCard.lean, 'card_holds'). Laid BY PROGRAM, IN A SANDBOX (cutbox-door.mjs). By AI agents, Wed Nov 11 2026. No macro, syntax, notation, axiom, sorry.
-/
import Derived.Test.YtlfgdaiegefjiaaDoorRows
import GoSem.ClaimSeven
namespace Go.Proofs.YtlfgdaiegefjiaaDoor
namespace Rows

/-- THE TIED CARD OF 'samphirelaw13.SnapOps'. -/
def snapOpsCard : Claim7 := { stood := { row := snapOpsRow, standIns := [], harness := (true, "c02e765c78e2589ba724c4a962012b36a7fafdaf5156c22acf9328bda39bedc6"), looks := false }, kinds := [], alts := [], laidByText := true, laidKinds := [.data, .pinned], laidTests := true, laidLooks := .later }
def SnapOpsCardSaid : Prop := Claim7.holds Tryd.pinned (.plain (OpenSpec.ofChange snapOpsSpec)) snapOpsCard

/-- THE TIED CARD OF 'samphirelaw13.SnapPuts'. -/
def snapPutsCard : Claim7 := { stood := { row := snapPutsRow, standIns := [], harness := (true, "c02e765c78e2589ba724c4a962012b36a7fafdaf5156c22acf9328bda39bedc6"), looks := false }, kinds := [], alts := [], laidByText := true, laidKinds := [.data, .pinned], laidTests := true, laidLooks := .later }
def SnapPutsCardSaid : Prop := Claim7.holds Tryd.pinned (.plain (OpenSpec.ofChange snapPutsSpec)) snapPutsCard

/-- THE TIED CARD OF 'samphirelaw13.SnapTakes'. -/
def snapTakesCard : Claim7 := { stood := { row := snapTakesRow, standIns := [], harness := (true, "c02e765c78e2589ba724c4a962012b36a7fafdaf5156c22acf9328bda39bedc6"), looks := false }, kinds := [], alts := [], laidByText := true, laidKinds := [.data, .pinned], laidTests := true, laidLooks := .later }
def SnapTakesCardSaid : Prop := Claim7.holds Tryd.pinned (.plain (OpenSpec.ofChange snapTakesSpec)) snapTakesCard

/-- THE TIED CARD OF 'samphirelaw13.SnapTrees'. -/
def snapTreesCard : Claim7 := { stood := { row := snapTreesRow, standIns := [], harness := (true, "c02e765c78e2589ba724c4a962012b36a7fafdaf5156c22acf9328bda39bedc6"), looks := false }, kinds := [], alts := [], laidByText := true, laidKinds := [.data, .pinned], laidTests := true, laidLooks := .later }
def SnapTreesCardSaid : Prop := Claim7.holds Tryd.pinned (.plain (OpenSpec.ofChange snapTreesSpec)) snapTreesCard

/-- THE TIED CARD OF 'samphirelaw13.SnapCuts'. -/
def snapCutsCard : Claim7 := { stood := { row := snapCutsRow, standIns := [], harness := (true, "c02e765c78e2589ba724c4a962012b36a7fafdaf5156c22acf9328bda39bedc6"), looks := false }, kinds := [], alts := [], laidByText := true, laidKinds := [.data, .pinned], laidTests := true, laidLooks := .later }
def SnapCutsCardSaid : Prop := Claim7.holds Tryd.pinned (.plain (OpenSpec.ofChange snapCutsSpec)) snapCutsCard

/-- THE SECOND FORM's CARD OF 'samphirelaw13.SnapOps'. -/
def snapOpsUptoCard : Claim7 := { stood := { row := snapOpsUptoRow, standIns := [], harness := (true, "c02e765c78e2589ba724c4a962012b36a7fafdaf5156c22acf9328bda39bedc6"), looks := false }, kinds := [], alts := [], laidByText := true, laidKinds := [.data, .pinned], laidTests := true, laidLooks := .later }
def SnapOpsUptoCardSaid : Prop := Claim7.holds Tryd.pinned (.plain (OpenSpec.upto snapOpsSpec)) snapOpsUptoCard

/-- THE SECOND FORM's CARD OF 'samphirelaw13.SnapPuts'. -/
def snapPutsUptoCard : Claim7 := { stood := { row := snapPutsUptoRow, standIns := [], harness := (true, "c02e765c78e2589ba724c4a962012b36a7fafdaf5156c22acf9328bda39bedc6"), looks := false }, kinds := [], alts := [], laidByText := true, laidKinds := [.data, .pinned], laidTests := true, laidLooks := .later }
def SnapPutsUptoCardSaid : Prop := Claim7.holds Tryd.pinned (.plain (OpenSpec.upto snapPutsSpec)) snapPutsUptoCard

/-- THE SECOND FORM's CARD OF 'samphirelaw13.SnapTakes'. -/
def snapTakesUptoCard : Claim7 := { stood := { row := snapTakesUptoRow, standIns := [], harness := (true, "c02e765c78e2589ba724c4a962012b36a7fafdaf5156c22acf9328bda39bedc6"), looks := false }, kinds := [], alts := [], laidByText := true, laidKinds := [.data, .pinned], laidTests := true, laidLooks := .later }
def SnapTakesUptoCardSaid : Prop := Claim7.holds Tryd.pinned (.plain (OpenSpec.upto snapTakesSpec)) snapTakesUptoCard

/-- THE SECOND FORM's CARD OF 'samphirelaw13.SnapTrees'. -/
def snapTreesUptoCard : Claim7 := { stood := { row := snapTreesUptoRow, standIns := [], harness := (true, "c02e765c78e2589ba724c4a962012b36a7fafdaf5156c22acf9328bda39bedc6"), looks := false }, kinds := [], alts := [], laidByText := true, laidKinds := [.data, .pinned], laidTests := true, laidLooks := .later }
def SnapTreesUptoCardSaid : Prop := Claim7.holds Tryd.pinned (.plain (OpenSpec.upto snapTreesSpec)) snapTreesUptoCard

/-- THE SECOND FORM's CARD OF 'samphirelaw13.SnapCuts'. -/
def snapCutsUptoCard : Claim7 := { stood := { row := snapCutsUptoRow, standIns := [], harness := (true, "c02e765c78e2589ba724c4a962012b36a7fafdaf5156c22acf9328bda39bedc6"), looks := false }, kinds := [], alts := [], laidByText := true, laidKinds := [.data, .pinned], laidTests := true, laidLooks := .later }
def SnapCutsUptoCardSaid : Prop := Claim7.holds Tryd.pinned (.plain (OpenSpec.upto snapCutsSpec)) snapCutsUptoCard
end Rows
end Go.Proofs.YtlfgdaiegefjiaaDoor
