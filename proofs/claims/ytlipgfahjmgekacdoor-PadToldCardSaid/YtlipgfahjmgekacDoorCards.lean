/-
  DERIVED. GIVEN WITH THE SEED: THE CARDS: each row of YtlipgfahjmgekacDoorRows.lean that lists a variable, with what it lists TIED to the program's text (the seventh form; the later family's looks); each row that meets fmt, with fmt's text TOLD by the authors' own Lean function (tested against real Go, not proved from fmt's source: count such statements apart). THE CARD IS WHAT COUNTS. Prove the row's statement (the work); the ties are given (YtlipgfahjmgekacDoorTie.lean); close each card by the builder's one call (the guide's Derived/Test/ToyasCard.lean, 'card_holds'). Laid BY PROGRAM, IN A SANDBOX (cutbox-door.mjs). By AI agents, Wed Nov 11 2026. No macro, syntax, notation, axiom, sorry.
-/
import Derived.Test.YtlipgfahjmgekacDoorRows
import GoSem.ClaimSeven
namespace Go.Proofs.YtlipgfahjmgekacDoor
namespace Rows

/-- THE TIED CARD OF 'samphirelaw14.PadSizes'. -/
def padSizesCard : Claim7 := { stood := { row := padSizesRow, standIns := [], harness := (true, "9bb361e9121853e2b57264748582ead113c068d2c28f0f8e220feb5cadbf6d09"), looks := false }, kinds := [], alts := [], laidByText := true, laidKinds := [.data, .pinned], laidTests := true, laidLooks := .later }
def PadSizesCardSaid : Prop := Claim7.holds Tryd.pinned (.plain (OpenSpec.ofChange padSizesSpec)) padSizesCard

/-- THE TIED CARD OF 'samphirelaw14.PadPads'. -/
def padPadsCard : Claim7 := { stood := { row := padPadsRow, standIns := [], harness := (true, "9bb361e9121853e2b57264748582ead113c068d2c28f0f8e220feb5cadbf6d09"), looks := false }, kinds := [], alts := [], laidByText := true, laidKinds := [.data, .pinned], laidTests := true, laidLooks := .later }
def PadPadsCardSaid : Prop := Claim7.holds Tryd.pinned (.plain (OpenSpec.ofChange padPadsSpec)) padPadsCard

/-- THE TIED CARD OF 'samphirelaw14.PadTakes'. -/
def padTakesCard : Claim7 := { stood := { row := padTakesRow, standIns := [], harness := (true, "9bb361e9121853e2b57264748582ead113c068d2c28f0f8e220feb5cadbf6d09"), looks := false }, kinds := [], alts := [], laidByText := true, laidKinds := [.data, .pinned], laidTests := true, laidLooks := .later }
def PadTakesCardSaid : Prop := Claim7.holds Tryd.pinned (.plain (OpenSpec.ofChange padTakesSpec)) padTakesCard

/-- THE TIED CARD OF 'samphirelaw14.PadAlike'. -/
def padAlikeCard : Claim7 := { stood := { row := padAlikeRow, standIns := [], harness := (true, "9bb361e9121853e2b57264748582ead113c068d2c28f0f8e220feb5cadbf6d09"), looks := false }, kinds := [], alts := [], laidByText := true, laidKinds := [.data, .pinned], laidTests := true, laidLooks := .later }
def PadAlikeCardSaid : Prop := Claim7.holds Tryd.pinned (.plain (OpenSpec.ofChange padAlikeSpec)) padAlikeCard

/-- THE TIED CARD OF 'samphirelaw14.PadEdges'. -/
def padEdgesCard : Claim7 := { stood := { row := padEdgesRow, standIns := [], harness := (true, "9bb361e9121853e2b57264748582ead113c068d2c28f0f8e220feb5cadbf6d09"), looks := false }, kinds := [], alts := [], laidByText := true, laidKinds := [.data, .pinned], laidTests := true, laidLooks := .later }
def PadEdgesCardSaid : Prop := Claim7.holds Tryd.pinned (.plain (OpenSpec.ofChange padEdgesSpec)) padEdgesCard

/-- THE TIED CARD OF 'samphirelaw14.PadTold'. -/
def padToldCard : Claim7 := { stood := { row := padToldRow, standIns := [], harness := (true, "9bb361e9121853e2b57264748582ead113c068d2c28f0f8e220feb5cadbf6d09"), looks := false }, kinds := [], alts := [], laidByText := true, laidKinds := [.data, .pinned], laidTests := true, laidLooks := .later }
def PadToldCardSaid : Prop := Claim7.holds Tryd.pinned (.plain (OpenSpec.ofChange padToldSpec)) padToldCard

/-- THE SECOND FORM's CARD OF 'samphirelaw14.PadSizes'. -/
def padSizesUptoCard : Claim7 := { stood := { row := padSizesUptoRow, standIns := [], harness := (true, "9bb361e9121853e2b57264748582ead113c068d2c28f0f8e220feb5cadbf6d09"), looks := false }, kinds := [], alts := [], laidByText := true, laidKinds := [.data, .pinned], laidTests := true, laidLooks := .later }
def PadSizesUptoCardSaid : Prop := Claim7.holds Tryd.pinned (.plain (OpenSpec.upto padSizesSpec)) padSizesUptoCard

/-- THE SECOND FORM's CARD OF 'samphirelaw14.PadPads'. -/
def padPadsUptoCard : Claim7 := { stood := { row := padPadsUptoRow, standIns := [], harness := (true, "9bb361e9121853e2b57264748582ead113c068d2c28f0f8e220feb5cadbf6d09"), looks := false }, kinds := [], alts := [], laidByText := true, laidKinds := [.data, .pinned], laidTests := true, laidLooks := .later }
def PadPadsUptoCardSaid : Prop := Claim7.holds Tryd.pinned (.plain (OpenSpec.upto padPadsSpec)) padPadsUptoCard

/-- THE SECOND FORM's CARD OF 'samphirelaw14.PadTakes'. -/
def padTakesUptoCard : Claim7 := { stood := { row := padTakesUptoRow, standIns := [], harness := (true, "9bb361e9121853e2b57264748582ead113c068d2c28f0f8e220feb5cadbf6d09"), looks := false }, kinds := [], alts := [], laidByText := true, laidKinds := [.data, .pinned], laidTests := true, laidLooks := .later }
def PadTakesUptoCardSaid : Prop := Claim7.holds Tryd.pinned (.plain (OpenSpec.upto padTakesSpec)) padTakesUptoCard

/-- THE SECOND FORM's CARD OF 'samphirelaw14.PadAlike'. -/
def padAlikeUptoCard : Claim7 := { stood := { row := padAlikeUptoRow, standIns := [], harness := (true, "9bb361e9121853e2b57264748582ead113c068d2c28f0f8e220feb5cadbf6d09"), looks := false }, kinds := [], alts := [], laidByText := true, laidKinds := [.data, .pinned], laidTests := true, laidLooks := .later }
def PadAlikeUptoCardSaid : Prop := Claim7.holds Tryd.pinned (.plain (OpenSpec.upto padAlikeSpec)) padAlikeUptoCard

/-- THE SECOND FORM's CARD OF 'samphirelaw14.PadEdges'. -/
def padEdgesUptoCard : Claim7 := { stood := { row := padEdgesUptoRow, standIns := [], harness := (true, "9bb361e9121853e2b57264748582ead113c068d2c28f0f8e220feb5cadbf6d09"), looks := false }, kinds := [], alts := [], laidByText := true, laidKinds := [.data, .pinned], laidTests := true, laidLooks := .later }
def PadEdgesUptoCardSaid : Prop := Claim7.holds Tryd.pinned (.plain (OpenSpec.upto padEdgesSpec)) padEdgesUptoCard

/-- THE SECOND FORM's CARD OF 'samphirelaw14.PadTold'. -/
def padToldUptoCard : Claim7 := { stood := { row := padToldUptoRow, standIns := [], harness := (true, "9bb361e9121853e2b57264748582ead113c068d2c28f0f8e220feb5cadbf6d09"), looks := false }, kinds := [], alts := [], laidByText := true, laidKinds := [.data, .pinned], laidTests := true, laidLooks := .later }
def PadToldUptoCardSaid : Prop := Claim7.holds Tryd.pinned (.plain (OpenSpec.upto padToldSpec)) padToldUptoCard
end Rows
end Go.Proofs.YtlipgfahjmgekacDoor
