/-
  DERIVED. GIVEN WITH THE SEED: THE CARDS: each row of YtiffeljmeahmkaaDoorRows.lean that lists a variable, with what it lists TIED to the program's text (the seventh form; the later family's looks); each row that meets fmt, with fmt's text TOLD by the authors' own Lean function (tested against real Go, not proved from fmt's source: count such statements apart). THE CARD IS WHAT COUNTS. Prove the row's statement (the work); the ties are given (YtiffeljmeahmkaaDoorTie.lean); close each card by the builder's one call (the guide's Derived/Test/ToyasCard.lean, 'card_holds'). Laid BY PROGRAM, IN A SANDBOX (cutbox-door.mjs). By AI agents, Wed Nov 11 2026. No macro, syntax, notation, axiom, sorry.
-/
import Derived.Test.YtiffeljmeahmkaaDoorRows
import GoSem.ClaimSeven
namespace Go.Proofs.YtiffeljmeahmkaaDoor
namespace Rows

/-- THE TIED CARD OF 'samphirelaw11.TreeFull'. -/
def treeFullCard : Claim7 := { stood := { row := treeFullRow, standIns := [], harness := (true, "6593f81f392d148ca82751d13b40442a71c574290d0e3ec558449ebd31431f0d"), looks := false }, kinds := [], alts := [], laidByText := true, laidKinds := [.data, .pinned], laidTests := true, laidLooks := .later }
def TreeFullCardSaid : Prop := Claim7.holds Tryd.pinned (.plain (OpenSpec.ofChange treeFullSpec)) treeFullCard

/-- THE TIED CARD OF 'samphirelaw11.TreeLast'. -/
def treeLastCard : Claim7 := { stood := { row := treeLastRow, standIns := [], harness := (true, "6593f81f392d148ca82751d13b40442a71c574290d0e3ec558449ebd31431f0d"), looks := false }, kinds := [], alts := [], laidByText := true, laidKinds := [.data, .pinned], laidTests := true, laidLooks := .later }
def TreeLastCardSaid : Prop := Claim7.holds Tryd.pinned (.plain (OpenSpec.ofChange treeLastSpec)) treeLastCard

/-- THE TIED CARD OF 'samphirelaw11.TreeTrash'. -/
def treeTrashCard : Claim7 := { stood := { row := treeTrashRow, standIns := [], harness := (true, "6593f81f392d148ca82751d13b40442a71c574290d0e3ec558449ebd31431f0d"), looks := false }, kinds := [], alts := [], laidByText := true, laidKinds := [.data, .pinned], laidTests := true, laidLooks := .later }
def TreeTrashCardSaid : Prop := Claim7.holds Tryd.pinned (.plain (OpenSpec.ofChange treeTrashSpec)) treeTrashCard

/-- THE TIED CARD OF 'samphirelaw11.TreePlays'. -/
def treePlaysCard : Claim7 := { stood := { row := treePlaysRow, standIns := [], harness := (true, "6593f81f392d148ca82751d13b40442a71c574290d0e3ec558449ebd31431f0d"), looks := false }, kinds := [], alts := [], laidByText := true, laidKinds := [.data, .pinned], laidTests := true, laidLooks := .later }
def TreePlaysCardSaid : Prop := Claim7.holds Tryd.pinned (.plain (OpenSpec.ofChange treePlaysSpec)) treePlaysCard

/-- THE TIED CARD OF 'samphirelaw11.TreeOrders'. -/
def treeOrdersCard : Claim7 := { stood := { row := treeOrdersRow, standIns := [], harness := (true, "6593f81f392d148ca82751d13b40442a71c574290d0e3ec558449ebd31431f0d"), looks := false }, kinds := [], alts := [], laidByText := true, laidKinds := [.data, .pinned], laidTests := true, laidLooks := .later }
def TreeOrdersCardSaid : Prop := Claim7.holds Tryd.pinned (.plain (OpenSpec.ofChange treeOrdersSpec)) treeOrdersCard

/-- THE TIED CARD OF 'samphirelaw11.TreeRooted'. -/
def treeRootedCard : Claim7 := { stood := { row := treeRootedRow, standIns := [], harness := (true, "6593f81f392d148ca82751d13b40442a71c574290d0e3ec558449ebd31431f0d"), looks := false }, kinds := [], alts := [], laidByText := true, laidKinds := [.data, .pinned], laidTests := true, laidLooks := .later }
def TreeRootedCardSaid : Prop := Claim7.holds Tryd.pinned (.plain (OpenSpec.ofChange treeRootedSpec)) treeRootedCard

/-- THE TIED CARD OF 'samphirelaw11.TreeCompacts'. -/
def treeCompactsCard : Claim7 := { stood := { row := treeCompactsRow, standIns := [], harness := (true, "6593f81f392d148ca82751d13b40442a71c574290d0e3ec558449ebd31431f0d"), looks := false }, kinds := [], alts := [], laidByText := true, laidKinds := [.data, .pinned], laidTests := true, laidLooks := .later }
def TreeCompactsCardSaid : Prop := Claim7.holds Tryd.pinned (.plain (OpenSpec.ofChange treeCompactsSpec)) treeCompactsCard

/-- THE TIED CARD OF 'samphirelaw11.TreeNobody'. -/
def treeNobodyCard : Claim7 := { stood := { row := treeNobodyRow, standIns := [], harness := (true, "6593f81f392d148ca82751d13b40442a71c574290d0e3ec558449ebd31431f0d"), looks := false }, kinds := [], alts := [], laidByText := true, laidKinds := [.data, .pinned], laidTests := true, laidLooks := .later }
def TreeNobodyCardSaid : Prop := Claim7.holds Tryd.pinned (.plain (OpenSpec.ofChange treeNobodySpec)) treeNobodyCard

/-- THE TIED CARD OF 'samphirelaw11.TreeOf'. -/
def treeOfCard : Claim7 := { stood := { row := treeOfRow, standIns := [], harness := (true, "6593f81f392d148ca82751d13b40442a71c574290d0e3ec558449ebd31431f0d"), looks := false }, kinds := [], alts := [], laidByText := true, laidKinds := [.data, .pinned], laidTests := true, laidLooks := .later }
def TreeOfCardSaid : Prop := Claim7.holds Tryd.pinned (.plain (OpenSpec.ofChange treeOfSpec)) treeOfCard

/-- THE SECOND FORM's CARD OF 'samphirelaw11.TreeFull'. -/
def treeFullUptoCard : Claim7 := { stood := { row := treeFullUptoRow, standIns := [], harness := (true, "6593f81f392d148ca82751d13b40442a71c574290d0e3ec558449ebd31431f0d"), looks := false }, kinds := [], alts := [], laidByText := true, laidKinds := [.data, .pinned], laidTests := true, laidLooks := .later }
def TreeFullUptoCardSaid : Prop := Claim7.holds Tryd.pinned (.plain (OpenSpec.upto treeFullSpec)) treeFullUptoCard

/-- THE SECOND FORM's CARD OF 'samphirelaw11.TreeLast'. -/
def treeLastUptoCard : Claim7 := { stood := { row := treeLastUptoRow, standIns := [], harness := (true, "6593f81f392d148ca82751d13b40442a71c574290d0e3ec558449ebd31431f0d"), looks := false }, kinds := [], alts := [], laidByText := true, laidKinds := [.data, .pinned], laidTests := true, laidLooks := .later }
def TreeLastUptoCardSaid : Prop := Claim7.holds Tryd.pinned (.plain (OpenSpec.upto treeLastSpec)) treeLastUptoCard

/-- THE SECOND FORM's CARD OF 'samphirelaw11.TreeTrash'. -/
def treeTrashUptoCard : Claim7 := { stood := { row := treeTrashUptoRow, standIns := [], harness := (true, "6593f81f392d148ca82751d13b40442a71c574290d0e3ec558449ebd31431f0d"), looks := false }, kinds := [], alts := [], laidByText := true, laidKinds := [.data, .pinned], laidTests := true, laidLooks := .later }
def TreeTrashUptoCardSaid : Prop := Claim7.holds Tryd.pinned (.plain (OpenSpec.upto treeTrashSpec)) treeTrashUptoCard

/-- THE SECOND FORM's CARD OF 'samphirelaw11.TreePlays'. -/
def treePlaysUptoCard : Claim7 := { stood := { row := treePlaysUptoRow, standIns := [], harness := (true, "6593f81f392d148ca82751d13b40442a71c574290d0e3ec558449ebd31431f0d"), looks := false }, kinds := [], alts := [], laidByText := true, laidKinds := [.data, .pinned], laidTests := true, laidLooks := .later }
def TreePlaysUptoCardSaid : Prop := Claim7.holds Tryd.pinned (.plain (OpenSpec.upto treePlaysSpec)) treePlaysUptoCard

/-- THE SECOND FORM's CARD OF 'samphirelaw11.TreeOrders'. -/
def treeOrdersUptoCard : Claim7 := { stood := { row := treeOrdersUptoRow, standIns := [], harness := (true, "6593f81f392d148ca82751d13b40442a71c574290d0e3ec558449ebd31431f0d"), looks := false }, kinds := [], alts := [], laidByText := true, laidKinds := [.data, .pinned], laidTests := true, laidLooks := .later }
def TreeOrdersUptoCardSaid : Prop := Claim7.holds Tryd.pinned (.plain (OpenSpec.upto treeOrdersSpec)) treeOrdersUptoCard

/-- THE SECOND FORM's CARD OF 'samphirelaw11.TreeRooted'. -/
def treeRootedUptoCard : Claim7 := { stood := { row := treeRootedUptoRow, standIns := [], harness := (true, "6593f81f392d148ca82751d13b40442a71c574290d0e3ec558449ebd31431f0d"), looks := false }, kinds := [], alts := [], laidByText := true, laidKinds := [.data, .pinned], laidTests := true, laidLooks := .later }
def TreeRootedUptoCardSaid : Prop := Claim7.holds Tryd.pinned (.plain (OpenSpec.upto treeRootedSpec)) treeRootedUptoCard

/-- THE SECOND FORM's CARD OF 'samphirelaw11.TreeCompacts'. -/
def treeCompactsUptoCard : Claim7 := { stood := { row := treeCompactsUptoRow, standIns := [], harness := (true, "6593f81f392d148ca82751d13b40442a71c574290d0e3ec558449ebd31431f0d"), looks := false }, kinds := [], alts := [], laidByText := true, laidKinds := [.data, .pinned], laidTests := true, laidLooks := .later }
def TreeCompactsUptoCardSaid : Prop := Claim7.holds Tryd.pinned (.plain (OpenSpec.upto treeCompactsSpec)) treeCompactsUptoCard

/-- THE SECOND FORM's CARD OF 'samphirelaw11.TreeNobody'. -/
def treeNobodyUptoCard : Claim7 := { stood := { row := treeNobodyUptoRow, standIns := [], harness := (true, "6593f81f392d148ca82751d13b40442a71c574290d0e3ec558449ebd31431f0d"), looks := false }, kinds := [], alts := [], laidByText := true, laidKinds := [.data, .pinned], laidTests := true, laidLooks := .later }
def TreeNobodyUptoCardSaid : Prop := Claim7.holds Tryd.pinned (.plain (OpenSpec.upto treeNobodySpec)) treeNobodyUptoCard

/-- THE SECOND FORM's CARD OF 'samphirelaw11.TreeOf'. -/
def treeOfUptoCard : Claim7 := { stood := { row := treeOfUptoRow, standIns := [], harness := (true, "6593f81f392d148ca82751d13b40442a71c574290d0e3ec558449ebd31431f0d"), looks := false }, kinds := [], alts := [], laidByText := true, laidKinds := [.data, .pinned], laidTests := true, laidLooks := .later }
def TreeOfUptoCardSaid : Prop := Claim7.holds Tryd.pinned (.plain (OpenSpec.upto treeOfSpec)) treeOfUptoCard
end Rows
end Go.Proofs.YtiffeljmeahmkaaDoor
