/-
  DERIVED. GIVEN WITH THE SEED: THE CARDS: each row of YthngjjeilcfhgaaGreatDoorRows.lean that lists a variable, with what it lists TIED to the program's text (the seventh form; the later family's looks); each row that meets fmt, with fmt's text TOLD by the authors' own Lean function (tested against real Go, not proved from fmt's source: count such statements apart). THE CARD IS WHAT COUNTS. Prove the row's statement (the work); the ties are given (YthngjjeilcfhgaaGreatDoorTie.lean); close each card by the builder's one call (the guide's Derived/Test/ToyasCard.lean, 'card_holds'). Laid BY PROGRAM, IN A SANDBOX (cutbox-door.mjs). By AI agents, Wed Nov 11 2026. No macro, syntax, notation, axiom, sorry.
-/
import Derived.Test.YthngjjeilcfhgaaGreatDoorRows
import GoSem.ClaimSeven
namespace Go.Proofs.YthngjjeilcfhgaaGreatDoor
namespace Rows

/-- THE TIED CARD OF 'escutcheonlaw18.AclParses'. -/
def aclParsesCard : Claim7 := { stood := { row := aclParsesRow, standIns := [], harness := (true, "8840787d40f3e15aa000914bc6ef3d859dc61865e2226db45f44241b32a15ca0"), looks := false }, kinds := [], alts := [], laidByText := true, laidKinds := [.data, .listed, .data, .pinned], laidTests := true, laidLooks := .later }
def AclParsesCardSaid : Prop := Claim7.holds Tryz.pinned (.plain (OpenSpec.ofChange aclParsesSpec)) aclParsesCard

/-- THE SECOND FORM's CARD OF 'escutcheonlaw18.AclParses'. -/
def aclParsesUptoCard : Claim7 := { stood := { row := aclParsesUptoRow, standIns := [], harness := (true, "8840787d40f3e15aa000914bc6ef3d859dc61865e2226db45f44241b32a15ca0"), looks := false }, kinds := [], alts := [], laidByText := true, laidKinds := [.data, .listed, .data, .pinned], laidTests := true, laidLooks := .later }
def AclParsesUptoCardSaid : Prop := Claim7.holds Tryz.pinned (.plain (OpenSpec.upto aclParsesSpec)) aclParsesUptoCard
end Rows
end Go.Proofs.YthngjjeilcfhgaaGreatDoor
