/-
  DERIVED. GIVEN WITH THE SEED: THE CARDS: each row of YtkekohmkaefdnaaGreatDoorRows.lean that lists a variable, with what it lists TIED to the program's text (the seventh form; the later family's looks); each row that meets fmt, with fmt's text TOLD by the authors' own Lean function (tested against real Go, not proved from fmt's source: count such statements apart). THE CARD IS WHAT COUNTS. Prove the row's statement (the work); the ties are given (YtkekohmkaefdnaaGreatDoorTie.lean); close each card by the builder's one call (the guide's Derived/Test/ToyasCard.lean, 'card_holds'). Laid BY PROGRAM, IN A SANDBOX (cutbox-door.mjs). By AI agents, Wed Nov 11 2026. No macro, syntax, notation, axiom, sorry.
-/
import Derived.Test.YtkekohmkaefdnaaGreatDoorRows
import GoSem.ClaimSeven
namespace Go.Proofs.YtkekohmkaefdnaaGreatDoor
namespace Rows

/-- THE TIED CARD OF 'escutcheonlaw22.PortRoom'. -/
def portRoomCard : Claim7 := { stood := { row := portRoomRow, standIns := [], harness := (true, "91446a9876f0cb0cf386a488eb498e0754d7d4215b5a921aadb6ea9a873e3c82"), looks := true }, kinds := [], alts := [], laidByText := true, laidKinds := [.data, .data, .data, .data, .sentinel, .sentinel, .listed, .data, .pinned], laidTests := true, laidLooks := .later }
def PortRoomCardSaid : Prop := Claim7.holds Tryz.pinned (.plain (OpenSpec.ofChange portRoomSpec)) portRoomCard

/-- THE TIED CARD OF 'escutcheonlaw22.PortFull'. -/
def portFullCard : Claim7 := { stood := { row := portFullRow, standIns := [], harness := (true, "91446a9876f0cb0cf386a488eb498e0754d7d4215b5a921aadb6ea9a873e3c82"), looks := true }, kinds := [], alts := [], laidByText := true, laidKinds := [.data, .data, .data, .data, .sentinel, .sentinel, .listed, .data, .pinned], laidTests := true, laidLooks := .later }
def PortFullCardSaid : Prop := Claim7.holds Tryz.pinned (.plain (OpenSpec.ofChange portFullSpec)) portFullCard

/-- THE TIED CARD OF 'escutcheonlaw22.PortClock'. -/
def portClockCard : Claim7 := { stood := { row := portClockRow, standIns := [], harness := (true, "91446a9876f0cb0cf386a488eb498e0754d7d4215b5a921aadb6ea9a873e3c82"), looks := true }, kinds := [], alts := [], laidByText := true, laidKinds := [.data, .data, .data, .data, .sentinel, .sentinel, .listed, .data, .pinned], laidTests := true, laidLooks := .later }
def PortClockCardSaid : Prop := Claim7.holds Tryz.pinned (.plain (OpenSpec.ofChange portClockSpec)) portClockCard

/-- THE TIED CARD OF 'escutcheonlaw22.PortRing'. -/
def portRingCard : Claim7 := { stood := { row := portRingRow, standIns := [], harness := (true, "91446a9876f0cb0cf386a488eb498e0754d7d4215b5a921aadb6ea9a873e3c82"), looks := true }, kinds := [], alts := [], laidByText := true, laidKinds := [.data, .data, .data, .data, .sentinel, .sentinel, .listed, .data, .pinned], laidTests := true, laidLooks := .later }
def PortRingCardSaid : Prop := Claim7.holds Tryz.pinned (.plain (OpenSpec.ofChange portRingSpec)) portRingCard

/-- THE SECOND FORM's CARD OF 'escutcheonlaw22.PortRoom'. -/
def portRoomUptoCard : Claim7 := { stood := { row := portRoomUptoRow, standIns := [], harness := (true, "91446a9876f0cb0cf386a488eb498e0754d7d4215b5a921aadb6ea9a873e3c82"), looks := true }, kinds := [], alts := [], laidByText := true, laidKinds := [.data, .data, .data, .data, .sentinel, .sentinel, .listed, .data, .pinned], laidTests := true, laidLooks := .later }
def PortRoomUptoCardSaid : Prop := Claim7.holds Tryz.pinned (.plain (OpenSpec.upto portRoomSpec)) portRoomUptoCard

/-- THE SECOND FORM's CARD OF 'escutcheonlaw22.PortFull'. -/
def portFullUptoCard : Claim7 := { stood := { row := portFullUptoRow, standIns := [], harness := (true, "91446a9876f0cb0cf386a488eb498e0754d7d4215b5a921aadb6ea9a873e3c82"), looks := true }, kinds := [], alts := [], laidByText := true, laidKinds := [.data, .data, .data, .data, .sentinel, .sentinel, .listed, .data, .pinned], laidTests := true, laidLooks := .later }
def PortFullUptoCardSaid : Prop := Claim7.holds Tryz.pinned (.plain (OpenSpec.upto portFullSpec)) portFullUptoCard

/-- THE SECOND FORM's CARD OF 'escutcheonlaw22.PortClock'. -/
def portClockUptoCard : Claim7 := { stood := { row := portClockUptoRow, standIns := [], harness := (true, "91446a9876f0cb0cf386a488eb498e0754d7d4215b5a921aadb6ea9a873e3c82"), looks := true }, kinds := [], alts := [], laidByText := true, laidKinds := [.data, .data, .data, .data, .sentinel, .sentinel, .listed, .data, .pinned], laidTests := true, laidLooks := .later }
def PortClockUptoCardSaid : Prop := Claim7.holds Tryz.pinned (.plain (OpenSpec.upto portClockSpec)) portClockUptoCard

/-- THE SECOND FORM's CARD OF 'escutcheonlaw22.PortRing'. -/
def portRingUptoCard : Claim7 := { stood := { row := portRingUptoRow, standIns := [], harness := (true, "91446a9876f0cb0cf386a488eb498e0754d7d4215b5a921aadb6ea9a873e3c82"), looks := true }, kinds := [], alts := [], laidByText := true, laidKinds := [.data, .data, .data, .data, .sentinel, .sentinel, .listed, .data, .pinned], laidTests := true, laidLooks := .later }
def PortRingUptoCardSaid : Prop := Claim7.holds Tryz.pinned (.plain (OpenSpec.upto portRingSpec)) portRingUptoCard
end Rows
end Go.Proofs.YtkekohmkaefdnaaGreatDoor
