/-
  DERIVED. GIVEN WITH THE SEED: THE CARDS: each row of YtbfdaclekjgkfaaGreatDoorRows.lean that lists a variable, with what it lists TIED to the program's text (the seventh form; the later family's looks); each row that meets fmt, with fmt's text TOLD by the authors' own Lean function (tested against real Go, not proved from fmt's source: count such statements apart). THE CARD IS WHAT COUNTS. Prove the row's statement (the work); the ties are given (YtbfdaclekjgkfaaGreatDoorTie.lean); close each card by the builder's one call (the guide's Derived/Test/ToyasCard.lean, 'card_holds'). Laid BY PROGRAM, IN A SANDBOX (cutbox-door.mjs). By AI agents, Wed Nov 11 2026. No macro, syntax, notation, axiom, sorry.
-/
import Derived.Test.YtbfdaclekjgkfaaGreatDoorRows
import GoSem.ClaimSeven
namespace Go.Proofs.YtbfdaclekjgkfaaGreatDoor
namespace Rows

/-- THE TIED CARD OF 'escutcheonlaw10.ReplyTells'. -/
def replyTellsCard : Claim7 := { stood := { row := replyTellsRow, standIns := [], harness := (true, "e450240de9c58458e6a63a56c5029431df953cae7eeda3eb72bb3a5722b1c508"), looks := false }, kinds := [], alts := [], laidByText := true, laidKinds := [.listed, .data], laidTests := true, laidLooks := .later }
def ReplyTellsCardSaid : Prop := Claim7.holds Tryz.pinned (.plain (OpenSpec.ofChange replyTellsSpec)) replyTellsCard

/-- THE SECOND FORM's CARD OF 'escutcheonlaw10.ReplyTells'. -/
def replyTellsUptoCard : Claim7 := { stood := { row := replyTellsUptoRow, standIns := [], harness := (true, "e450240de9c58458e6a63a56c5029431df953cae7eeda3eb72bb3a5722b1c508"), looks := false }, kinds := [], alts := [], laidByText := true, laidKinds := [.listed, .data], laidTests := true, laidLooks := .later }
def ReplyTellsUptoCardSaid : Prop := Claim7.holds Tryz.pinned (.plain (OpenSpec.upto replyTellsSpec)) replyTellsUptoCard
end Rows
end Go.Proofs.YtbfdaclekjgkfaaGreatDoor
