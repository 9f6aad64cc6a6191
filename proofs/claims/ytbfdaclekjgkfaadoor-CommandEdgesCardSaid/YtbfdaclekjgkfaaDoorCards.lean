/-
  DERIVED. GIVEN WITH THE SEED: THE CARDS: each row of YtbfdaclekjgkfaaDoorRows.lean that lists a variable, with what it lists TIED to the program's text (the seventh form; the later family's looks); each row that meets fmt, with fmt's text TOLD by the authors' own Lean function (tested against real Go, not proved from fmt's source: count such statements apart). THE CARD IS WHAT COUNTS. Prove the row's statement (the work); the ties are given (YtbfdaclekjgkfaaDoorTie.lean); close each card by the builder's one call (the guide's Derived/Test/ToyasCard.lean, 'card_holds'). Laid BY PROGRAM, IN A SANDBOX (cutbox-door.mjs). By AI agents, Wed Nov 11 2026. No macro, syntax, notation, axiom, sorry.
-/
import Derived.Test.YtbfdaclekjgkfaaDoorRows
import GoSem.ClaimSeven
namespace Go.Proofs.YtbfdaclekjgkfaaDoor
namespace Rows

/-- THE TIED CARD OF 'escutcheonlaw10.CommandTells'. -/
def commandTellsCard : Claim7 := { stood := { row := commandTellsRow, standIns := [], harness := (true, "b335364f5c397ef70bd423f8c766f12a6b40e9c876f5c02ff72be3e994e89e00"), looks := false }, kinds := [], alts := [], laidByText := true, laidKinds := [.listed, .data], laidTests := true, laidLooks := .later }
def CommandTellsCardSaid : Prop := Claim7.holds Tryd.pinned (.plain (OpenSpec.ofChange commandTellsSpec)) commandTellsCard

/-- THE TIED CARD OF 'escutcheonlaw10.CommandOnly'. -/
def commandOnlyCard : Claim7 := { stood := { row := commandOnlyRow, standIns := [], harness := (true, "b335364f5c397ef70bd423f8c766f12a6b40e9c876f5c02ff72be3e994e89e00"), looks := false }, kinds := [], alts := [], laidByText := true, laidKinds := [.listed, .data], laidTests := true, laidLooks := .later }
def CommandOnlyCardSaid : Prop := Claim7.holds Tryd.pinned (.plain (OpenSpec.ofChange commandOnlySpec)) commandOnlyCard

/-- THE TIED CARD OF 'escutcheonlaw10.CommandNames'. -/
def commandNamesCard : Claim7 := { stood := { row := commandNamesRow, standIns := [], harness := (true, "b335364f5c397ef70bd423f8c766f12a6b40e9c876f5c02ff72be3e994e89e00"), looks := false }, kinds := [], alts := [], laidByText := true, laidKinds := [.listed, .data], laidTests := true, laidLooks := .later }
def CommandNamesCardSaid : Prop := Claim7.holds Tryd.pinned (.plain (OpenSpec.ofChange commandNamesSpec)) commandNamesCard

/-- THE TIED CARD OF 'escutcheonlaw10.CommandSizes'. -/
def commandSizesCard : Claim7 := { stood := { row := commandSizesRow, standIns := [], harness := (true, "b335364f5c397ef70bd423f8c766f12a6b40e9c876f5c02ff72be3e994e89e00"), looks := false }, kinds := [], alts := [], laidByText := true, laidKinds := [.listed, .data], laidTests := true, laidLooks := .later }
def CommandSizesCardSaid : Prop := Claim7.holds Tryd.pinned (.plain (OpenSpec.ofChange commandSizesSpec)) commandSizesCard

/-- THE TIED CARD OF 'escutcheonlaw10.CommandEdges'. -/
def commandEdgesCard : Claim7 := { stood := { row := commandEdgesRow, standIns := [], harness := (true, "b335364f5c397ef70bd423f8c766f12a6b40e9c876f5c02ff72be3e994e89e00"), looks := false }, kinds := [], alts := [], laidByText := true, laidKinds := [.listed, .data], laidTests := true, laidLooks := .later }
def CommandEdgesCardSaid : Prop := Claim7.holds Tryd.pinned (.plain (OpenSpec.ofChange commandEdgesSpec)) commandEdgesCard

/-- THE TIED CARD OF 'escutcheonlaw10.ReplySizes'. -/
def replySizesCard : Claim7 := { stood := { row := replySizesRow, standIns := [], harness := (true, "b335364f5c397ef70bd423f8c766f12a6b40e9c876f5c02ff72be3e994e89e00"), looks := false }, kinds := [], alts := [], laidByText := true, laidKinds := [.listed, .data], laidTests := true, laidLooks := .later }
def ReplySizesCardSaid : Prop := Claim7.holds Tryd.pinned (.plain (OpenSpec.ofChange replySizesSpec)) replySizesCard

/-- THE SECOND FORM's CARD OF 'escutcheonlaw10.CommandTells'. -/
def commandTellsUptoCard : Claim7 := { stood := { row := commandTellsUptoRow, standIns := [], harness := (true, "b335364f5c397ef70bd423f8c766f12a6b40e9c876f5c02ff72be3e994e89e00"), looks := false }, kinds := [], alts := [], laidByText := true, laidKinds := [.listed, .data], laidTests := true, laidLooks := .later }
def CommandTellsUptoCardSaid : Prop := Claim7.holds Tryd.pinned (.plain (OpenSpec.upto commandTellsSpec)) commandTellsUptoCard

/-- THE SECOND FORM's CARD OF 'escutcheonlaw10.CommandOnly'. -/
def commandOnlyUptoCard : Claim7 := { stood := { row := commandOnlyUptoRow, standIns := [], harness := (true, "b335364f5c397ef70bd423f8c766f12a6b40e9c876f5c02ff72be3e994e89e00"), looks := false }, kinds := [], alts := [], laidByText := true, laidKinds := [.listed, .data], laidTests := true, laidLooks := .later }
def CommandOnlyUptoCardSaid : Prop := Claim7.holds Tryd.pinned (.plain (OpenSpec.upto commandOnlySpec)) commandOnlyUptoCard

/-- THE SECOND FORM's CARD OF 'escutcheonlaw10.CommandNames'. -/
def commandNamesUptoCard : Claim7 := { stood := { row := commandNamesUptoRow, standIns := [], harness := (true, "b335364f5c397ef70bd423f8c766f12a6b40e9c876f5c02ff72be3e994e89e00"), looks := false }, kinds := [], alts := [], laidByText := true, laidKinds := [.listed, .data], laidTests := true, laidLooks := .later }
def CommandNamesUptoCardSaid : Prop := Claim7.holds Tryd.pinned (.plain (OpenSpec.upto commandNamesSpec)) commandNamesUptoCard

/-- THE SECOND FORM's CARD OF 'escutcheonlaw10.CommandSizes'. -/
def commandSizesUptoCard : Claim7 := { stood := { row := commandSizesUptoRow, standIns := [], harness := (true, "b335364f5c397ef70bd423f8c766f12a6b40e9c876f5c02ff72be3e994e89e00"), looks := false }, kinds := [], alts := [], laidByText := true, laidKinds := [.listed, .data], laidTests := true, laidLooks := .later }
def CommandSizesUptoCardSaid : Prop := Claim7.holds Tryd.pinned (.plain (OpenSpec.upto commandSizesSpec)) commandSizesUptoCard

/-- THE SECOND FORM's CARD OF 'escutcheonlaw10.CommandEdges'. -/
def commandEdgesUptoCard : Claim7 := { stood := { row := commandEdgesUptoRow, standIns := [], harness := (true, "b335364f5c397ef70bd423f8c766f12a6b40e9c876f5c02ff72be3e994e89e00"), looks := false }, kinds := [], alts := [], laidByText := true, laidKinds := [.listed, .data], laidTests := true, laidLooks := .later }
def CommandEdgesUptoCardSaid : Prop := Claim7.holds Tryd.pinned (.plain (OpenSpec.upto commandEdgesSpec)) commandEdgesUptoCard

/-- THE SECOND FORM's CARD OF 'escutcheonlaw10.ReplySizes'. -/
def replySizesUptoCard : Claim7 := { stood := { row := replySizesUptoRow, standIns := [], harness := (true, "b335364f5c397ef70bd423f8c766f12a6b40e9c876f5c02ff72be3e994e89e00"), looks := false }, kinds := [], alts := [], laidByText := true, laidKinds := [.listed, .data], laidTests := true, laidLooks := .later }
def ReplySizesUptoCardSaid : Prop := Claim7.holds Tryd.pinned (.plain (OpenSpec.upto replySizesSpec)) replySizesUptoCard
end Rows
end Go.Proofs.YtbfdaclekjgkfaaDoor
