/-
  DERIVED. GIVEN WITH THE SEED: THE CARDS: each row of YthngjjeilcfhgaaDoorRows.lean that lists a variable, with what it lists TIED to the program's text (the seventh form; the later family's looks); each row that meets fmt, with fmt's text TOLD by the authors' own Lean function (tested against real Go, not proved from fmt's source: count such statements apart). THE CARD IS WHAT COUNTS. Prove the row's statement (the work); the ties are given (YthngjjeilcfhgaaDoorTie.lean); close each card by the builder's one call (the guide's Derived/Test/ToyasCard.lean, 'card_holds'). Laid BY PROGRAM, IN A SANDBOX (cutbox-door.mjs). By AI agents, Wed Nov 11 2026. No macro, syntax, notation, axiom, sorry.
-/
import Derived.Test.YthngjjeilcfhgaaDoorRows
import GoSem.ClaimSeven
namespace Go.Proofs.YthngjjeilcfhgaaDoor
namespace Rows

/-- THE TIED CARD OF 'escutcheonlaw18.AclTells'. -/
def aclTellsCard : Claim7 := { stood := { row := aclTellsRow, standIns := [], harness := (true, "ebc0a8a425667e871d59ab47a12d484c602562a18a6817a02ca2d054f6a3985a"), looks := false }, kinds := [], alts := [], laidByText := true, laidKinds := [.data, .listed, .data, .pinned], laidTests := true, laidLooks := .later }
def AclTellsCardSaid : Prop := Claim7.holds Tryd.pinned (.plain (OpenSpec.ofChange aclTellsSpec)) aclTellsCard

/-- THE TIED CARD OF 'escutcheonlaw18.AclBack'. -/
def aclBackCard : Claim7 := { stood := { row := aclBackRow, standIns := [], harness := (true, "ebc0a8a425667e871d59ab47a12d484c602562a18a6817a02ca2d054f6a3985a"), looks := false }, kinds := [], alts := [], laidByText := true, laidKinds := [.data, .listed, .data, .pinned], laidTests := true, laidLooks := .later }
def AclBackCardSaid : Prop := Claim7.holds Tryd.pinned (.plain (OpenSpec.ofChange aclBackSpec)) aclBackCard

/-- THE TIED CARD OF 'escutcheonlaw18.AclFirst'. -/
def aclFirstCard : Claim7 := { stood := { row := aclFirstRow, standIns := [], harness := (true, "ebc0a8a425667e871d59ab47a12d484c602562a18a6817a02ca2d054f6a3985a"), looks := false }, kinds := [], alts := [], laidByText := true, laidKinds := [.data, .listed, .data, .pinned], laidTests := true, laidLooks := .later }
def AclFirstCardSaid : Prop := Claim7.holds Tryd.pinned (.plain (OpenSpec.ofChange aclFirstSpec)) aclFirstCard

/-- THE TIED CARD OF 'escutcheonlaw18.AclClasses'. -/
def aclClassesCard : Claim7 := { stood := { row := aclClassesRow, standIns := [], harness := (true, "ebc0a8a425667e871d59ab47a12d484c602562a18a6817a02ca2d054f6a3985a"), looks := false }, kinds := [], alts := [], laidByText := true, laidKinds := [.data, .listed, .data, .pinned], laidTests := true, laidLooks := .later }
def AclClassesCardSaid : Prop := Claim7.holds Tryd.pinned (.plain (OpenSpec.ofChange aclClassesSpec)) aclClassesCard

/-- THE TIED CARD OF 'escutcheonlaw18.AclLines'. -/
def aclLinesCard : Claim7 := { stood := { row := aclLinesRow, standIns := [], harness := (true, "ebc0a8a425667e871d59ab47a12d484c602562a18a6817a02ca2d054f6a3985a"), looks := false }, kinds := [], alts := [], laidByText := true, laidKinds := [.data, .listed, .data, .pinned], laidTests := true, laidLooks := .later }
def AclLinesCardSaid : Prop := Claim7.holds Tryd.pinned (.plain (OpenSpec.ofChange aclLinesSpec)) aclLinesCard

/-- THE TIED CARD OF 'escutcheonlaw18.AclStars'. -/
def aclStarsCard : Claim7 := { stood := { row := aclStarsRow, standIns := [], harness := (true, "ebc0a8a425667e871d59ab47a12d484c602562a18a6817a02ca2d054f6a3985a"), looks := false }, kinds := [], alts := [], laidByText := true, laidKinds := [.data, .listed, .data, .pinned], laidTests := true, laidLooks := .later }
def AclStarsCardSaid : Prop := Claim7.holds Tryd.pinned (.plain (OpenSpec.ofChange aclStarsSpec)) aclStarsCard

/-- THE SECOND FORM's CARD OF 'escutcheonlaw18.AclTells'. -/
def aclTellsUptoCard : Claim7 := { stood := { row := aclTellsUptoRow, standIns := [], harness := (true, "ebc0a8a425667e871d59ab47a12d484c602562a18a6817a02ca2d054f6a3985a"), looks := false }, kinds := [], alts := [], laidByText := true, laidKinds := [.data, .listed, .data, .pinned], laidTests := true, laidLooks := .later }
def AclTellsUptoCardSaid : Prop := Claim7.holds Tryd.pinned (.plain (OpenSpec.upto aclTellsSpec)) aclTellsUptoCard

/-- THE SECOND FORM's CARD OF 'escutcheonlaw18.AclBack'. -/
def aclBackUptoCard : Claim7 := { stood := { row := aclBackUptoRow, standIns := [], harness := (true, "ebc0a8a425667e871d59ab47a12d484c602562a18a6817a02ca2d054f6a3985a"), looks := false }, kinds := [], alts := [], laidByText := true, laidKinds := [.data, .listed, .data, .pinned], laidTests := true, laidLooks := .later }
def AclBackUptoCardSaid : Prop := Claim7.holds Tryd.pinned (.plain (OpenSpec.upto aclBackSpec)) aclBackUptoCard

/-- THE SECOND FORM's CARD OF 'escutcheonlaw18.AclFirst'. -/
def aclFirstUptoCard : Claim7 := { stood := { row := aclFirstUptoRow, standIns := [], harness := (true, "ebc0a8a425667e871d59ab47a12d484c602562a18a6817a02ca2d054f6a3985a"), looks := false }, kinds := [], alts := [], laidByText := true, laidKinds := [.data, .listed, .data, .pinned], laidTests := true, laidLooks := .later }
def AclFirstUptoCardSaid : Prop := Claim7.holds Tryd.pinned (.plain (OpenSpec.upto aclFirstSpec)) aclFirstUptoCard

/-- THE SECOND FORM's CARD OF 'escutcheonlaw18.AclClasses'. -/
def aclClassesUptoCard : Claim7 := { stood := { row := aclClassesUptoRow, standIns := [], harness := (true, "ebc0a8a425667e871d59ab47a12d484c602562a18a6817a02ca2d054f6a3985a"), looks := false }, kinds := [], alts := [], laidByText := true, laidKinds := [.data, .listed, .data, .pinned], laidTests := true, laidLooks := .later }
def AclClassesUptoCardSaid : Prop := Claim7.holds Tryd.pinned (.plain (OpenSpec.upto aclClassesSpec)) aclClassesUptoCard

/-- THE SECOND FORM's CARD OF 'escutcheonlaw18.AclLines'. -/
def aclLinesUptoCard : Claim7 := { stood := { row := aclLinesUptoRow, standIns := [], harness := (true, "ebc0a8a425667e871d59ab47a12d484c602562a18a6817a02ca2d054f6a3985a"), looks := false }, kinds := [], alts := [], laidByText := true, laidKinds := [.data, .listed, .data, .pinned], laidTests := true, laidLooks := .later }
def AclLinesUptoCardSaid : Prop := Claim7.holds Tryd.pinned (.plain (OpenSpec.upto aclLinesSpec)) aclLinesUptoCard

/-- THE SECOND FORM's CARD OF 'escutcheonlaw18.AclStars'. -/
def aclStarsUptoCard : Claim7 := { stood := { row := aclStarsUptoRow, standIns := [], harness := (true, "ebc0a8a425667e871d59ab47a12d484c602562a18a6817a02ca2d054f6a3985a"), looks := false }, kinds := [], alts := [], laidByText := true, laidKinds := [.data, .listed, .data, .pinned], laidTests := true, laidLooks := .later }
def AclStarsUptoCardSaid : Prop := Claim7.holds Tryd.pinned (.plain (OpenSpec.upto aclStarsSpec)) aclStarsUptoCard
end Rows
end Go.Proofs.YthngjjeilcfhgaaDoor
