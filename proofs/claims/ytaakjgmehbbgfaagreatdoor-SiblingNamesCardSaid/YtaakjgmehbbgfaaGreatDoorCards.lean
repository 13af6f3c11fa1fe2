/-
  DERIVED. GIVEN WITH THE SEED: THE CARDS: each row of YtaakjgmehbbgfaaGreatDoorRows.lean that lists a variable, with what it lists TIED to the program's text (the seventh form; the later family's looks); each row that meets fmt, with fmt's text TOLD by the authors' own Lean function (tested against real Go, not proved from fmt's source: count such statements apart). THE CARD IS WHAT COUNTS. Prove the row's statement (the work); the ties are given (YtaakjgmehbbgfaaGreatDoorTie.lean); close each card by the builder's one call (the guide's Derived/Test/ToyasCard.lean, 'card_holds'). Laid BY PROGRAM, IN A SANDBOX (cutbox-door.mjs). By AI agents, Wed Nov 11 2026. No macro, syntax, notation, axiom, sorry.
-/
import Derived.Test.YtaakjgmehbbgfaaGreatDoorRows
import GoSem.ClaimSeven
namespace Go.Proofs.YtaakjgmehbbgfaaGreatDoor
namespace Rows

/-- THE TIED CARD OF 'marsheslaw19.SiblingLoads'. -/
def siblingLoadsCard : Claim7 := { stood := { row := siblingLoadsRow, standIns := [], harness := (true, "d200ff25a0cd77722dbaf1a2cef421ac99df73665496334fa776342c37c23b8b"), looks := true }, kinds := [], alts := [], laidByText := true, laidKinds := [.data, .pinned], laidTests := true, laidLooks := .later }
def SiblingLoadsCardSaid : Prop := Claim7.holds Tryz.pinned (.plain (OpenSpec.ofChange siblingLoadsSpec)) siblingLoadsCard

/-- THE TIED CARD OF 'marsheslaw19.SiblingDeletes'. -/
def siblingDeletesCard : Claim7 := { stood := { row := siblingDeletesRow, standIns := [], harness := (true, "d200ff25a0cd77722dbaf1a2cef421ac99df73665496334fa776342c37c23b8b"), looks := true }, kinds := [], alts := [], laidByText := true, laidKinds := [.data, .pinned], laidTests := true, laidLooks := .later }
def SiblingDeletesCardSaid : Prop := Claim7.holds Tryz.pinned (.plain (OpenSpec.ofChange siblingDeletesSpec)) siblingDeletesCard

/-- THE TIED CARD OF 'marsheslaw19.SiblingApart'. -/
def siblingApartCard : Claim7 := { stood := { row := siblingApartRow, standIns := [], harness := (true, "d200ff25a0cd77722dbaf1a2cef421ac99df73665496334fa776342c37c23b8b"), looks := true }, kinds := [], alts := [], laidByText := true, laidKinds := [.data, .pinned], laidTests := true, laidLooks := .later }
def SiblingApartCardSaid : Prop := Claim7.holds Tryz.pinned (.plain (OpenSpec.ofChange siblingApartSpec)) siblingApartCard

/-- THE TIED CARD OF 'marsheslaw19.SiblingNames'. -/
def siblingNamesCard : Claim7 := { stood := { row := siblingNamesRow, standIns := [], harness := (true, "d200ff25a0cd77722dbaf1a2cef421ac99df73665496334fa776342c37c23b8b"), looks := true }, kinds := [], alts := [], laidByText := true, laidKinds := [.data, .pinned], laidTests := true, laidLooks := .later }
def SiblingNamesCardSaid : Prop := Claim7.holds Tryz.pinned (.plain (OpenSpec.ofChange siblingNamesSpec)) siblingNamesCard

/-- THE TIED CARD OF 'marsheslaw19.SiblingOrder'. -/
def siblingOrderCard : Claim7 := { stood := { row := siblingOrderRow, standIns := [], harness := (true, "d200ff25a0cd77722dbaf1a2cef421ac99df73665496334fa776342c37c23b8b"), looks := true }, kinds := [], alts := [], laidByText := true, laidKinds := [.data, .pinned], laidTests := true, laidLooks := .later }
def SiblingOrderCardSaid : Prop := Claim7.holds Tryz.pinned (.plain (OpenSpec.ofChange siblingOrderSpec)) siblingOrderCard

/-- THE TIED CARD OF 'marsheslaw17.CausalPlays'. -/
def causalPlaysCard : Claim7 := { stood := { row := causalPlaysRow, standIns := [], harness := (true, "d200ff25a0cd77722dbaf1a2cef421ac99df73665496334fa776342c37c23b8b"), looks := true }, kinds := [], alts := [], laidByText := true, laidKinds := [.data, .pinned], laidTests := true, laidLooks := .later }
def CausalPlaysCardSaid : Prop := Claim7.holds Tryz.pinned (.plain (OpenSpec.ofChange causalPlaysSpec)) causalPlaysCard

/-- THE SECOND FORM's CARD OF 'marsheslaw19.SiblingLoads'. -/
def siblingLoadsUptoCard : Claim7 := { stood := { row := siblingLoadsUptoRow, standIns := [], harness := (true, "d200ff25a0cd77722dbaf1a2cef421ac99df73665496334fa776342c37c23b8b"), looks := true }, kinds := [], alts := [], laidByText := true, laidKinds := [.data, .pinned], laidTests := true, laidLooks := .later }
def SiblingLoadsUptoCardSaid : Prop := Claim7.holds Tryz.pinned (.plain (OpenSpec.upto siblingLoadsSpec)) siblingLoadsUptoCard

/-- THE SECOND FORM's CARD OF 'marsheslaw19.SiblingDeletes'. -/
def siblingDeletesUptoCard : Claim7 := { stood := { row := siblingDeletesUptoRow, standIns := [], harness := (true, "d200ff25a0cd77722dbaf1a2cef421ac99df73665496334fa776342c37c23b8b"), looks := true }, kinds := [], alts := [], laidByText := true, laidKinds := [.data, .pinned], laidTests := true, laidLooks := .later }
def SiblingDeletesUptoCardSaid : Prop := Claim7.holds Tryz.pinned (.plain (OpenSpec.upto siblingDeletesSpec)) siblingDeletesUptoCard

/-- THE SECOND FORM's CARD OF 'marsheslaw19.SiblingApart'. -/
def siblingApartUptoCard : Claim7 := { stood := { row := siblingApartUptoRow, standIns := [], harness := (true, "d200ff25a0cd77722dbaf1a2cef421ac99df73665496334fa776342c37c23b8b"), looks := true }, kinds := [], alts := [], laidByText := true, laidKinds := [.data, .pinned], laidTests := true, laidLooks := .later }
def SiblingApartUptoCardSaid : Prop := Claim7.holds Tryz.pinned (.plain (OpenSpec.upto siblingApartSpec)) siblingApartUptoCard

/-- THE SECOND FORM's CARD OF 'marsheslaw19.SiblingNames'. -/
def siblingNamesUptoCard : Claim7 := { stood := { row := siblingNamesUptoRow, standIns := [], harness := (true, "d200ff25a0cd77722dbaf1a2cef421ac99df73665496334fa776342c37c23b8b"), looks := true }, kinds := [], alts := [], laidByText := true, laidKinds := [.data, .pinned], laidTests := true, laidLooks := .later }
def SiblingNamesUptoCardSaid : Prop := Claim7.holds Tryz.pinned (.plain (OpenSpec.upto siblingNamesSpec)) siblingNamesUptoCard

/-- THE SECOND FORM's CARD OF 'marsheslaw19.SiblingOrder'. -/
def siblingOrderUptoCard : Claim7 := { stood := { row := siblingOrderUptoRow, standIns := [], harness := (true, "d200ff25a0cd77722dbaf1a2cef421ac99df73665496334fa776342c37c23b8b"), looks := true }, kinds := [], alts := [], laidByText := true, laidKinds := [.data, .pinned], laidTests := true, laidLooks := .later }
def SiblingOrderUptoCardSaid : Prop := Claim7.holds Tryz.pinned (.plain (OpenSpec.upto siblingOrderSpec)) siblingOrderUptoCard

/-- THE SECOND FORM's CARD OF 'marsheslaw17.CausalPlays'. -/
def causalPlaysUptoCard : Claim7 := { stood := { row := causalPlaysUptoRow, standIns := [], harness := (true, "d200ff25a0cd77722dbaf1a2cef421ac99df73665496334fa776342c37c23b8b"), looks := true }, kinds := [], alts := [], laidByText := true, laidKinds := [.data, .pinned], laidTests := true, laidLooks := .later }
def CausalPlaysUptoCardSaid : Prop := Claim7.holds Tryz.pinned (.plain (OpenSpec.upto causalPlaysSpec)) causalPlaysUptoCard
end Rows
end Go.Proofs.YtaakjgmehbbgfaaGreatDoor
