/-
  DERIVED. GIVEN WITH THE SEED: THE CARDS: each row of YtmjmaloapafnlaaGreatDoorRows.lean that lists a variable, with what it lists TIED to the program's text (the seventh form; the later family's looks); each row that meets fmt, with fmt's text TOLD by the authors' own Lean function (tested against real Go, not proved from fmt's source: count such statements apart). THE CARD IS WHAT COUNTS. Prove the row's statement (the work); the ties are given (YtmjmaloapafnlaaGreatDoorTie.lean); close each card by the builder's one call (the guide's Derived/Test/ToyasCard.lean, 'card_holds'). Laid BY PROGRAM, IN A SANDBOX (cutbox-door.mjs). By AI agents, Wed Nov 11 2026. No macro, syntax, notation, axiom, sorry.
-/
import Derived.Test.YtmjmaloapafnlaaGreatDoorRows
import GoSem.ClaimSeven
namespace Go.Proofs.YtmjmaloapafnlaaGreatDoor
namespace Rows

/-- THE TIED CARD OF 'marsheslaw08.StoreRoom'. -/
def storeRoomCard : Claim7 := { stood := { row := storeRoomRow, standIns := [], harness := (true, "6c805b5a616cad4cacfec951e76d9e0452bc1eca4594a18881c307b1e5661535"), looks := true }, kinds := [], alts := [], laidByText := true, laidKinds := [.data, .data], laidTests := true, laidLooks := .later }
def StoreRoomCardSaid : Prop := Claim7.holds Tryz.pinned (.plain (OpenSpec.ofChange storeRoomSpec)) storeRoomCard

/-- THE TIED CARD OF 'marsheslaw07.ObjectForms'. -/
def objectFormsCard : Claim7 := { stood := { row := objectFormsRow, standIns := [], harness := (true, "6c805b5a616cad4cacfec951e76d9e0452bc1eca4594a18881c307b1e5661535"), looks := true }, kinds := [], alts := [], laidByText := true, laidKinds := [.data, .data], laidTests := true, laidLooks := .later }
def ObjectFormsCardSaid : Prop := Claim7.holds Tryz.pinned (.plain (OpenSpec.ofChange objectFormsSpec)) objectFormsCard

/-- THE TIED CARD OF 'marsheslaw08.StoreKeeps'. -/
def storeKeepsCard : Claim7 := { stood := { row := storeKeepsRow, standIns := [], harness := (true, "6c805b5a616cad4cacfec951e76d9e0452bc1eca4594a18881c307b1e5661535"), looks := true }, kinds := [], alts := [], laidByText := true, laidKinds := [.data, .data], laidTests := true, laidLooks := .later }
def StoreKeepsCardSaid : Prop := Claim7.holds Tryz.pinned (.plain (OpenSpec.ofChange storeKeepsSpec)) storeKeepsCard

/-- THE TIED CARD OF 'marsheslaw08.StoreOrder'. -/
def storeOrderCard : Claim7 := { stood := { row := storeOrderRow, standIns := [], harness := (true, "6c805b5a616cad4cacfec951e76d9e0452bc1eca4594a18881c307b1e5661535"), looks := true }, kinds := [], alts := [], laidByText := true, laidKinds := [.data, .data], laidTests := true, laidLooks := .later }
def StoreOrderCardSaid : Prop := Claim7.holds Tryz.pinned (.plain (OpenSpec.ofChange storeOrderSpec)) storeOrderCard

/-- THE TIED CARD OF 'marsheslaw08.StorePlays'. -/
def storePlaysCard : Claim7 := { stood := { row := storePlaysRow, standIns := [], harness := (true, "6c805b5a616cad4cacfec951e76d9e0452bc1eca4594a18881c307b1e5661535"), looks := true }, kinds := [], alts := [], laidByText := true, laidKinds := [.data, .data], laidTests := true, laidLooks := .later }
def StorePlaysCardSaid : Prop := Claim7.holds Tryz.pinned (.plain (OpenSpec.ofChange storePlaysSpec)) storePlaysCard

/-- THE TIED CARD OF 'marsheslaw08.StoreNames'. -/
def storeNamesCard : Claim7 := { stood := { row := storeNamesRow, standIns := [], harness := (true, "6c805b5a616cad4cacfec951e76d9e0452bc1eca4594a18881c307b1e5661535"), looks := true }, kinds := [], alts := [], laidByText := true, laidKinds := [.data, .data], laidTests := true, laidLooks := .later }
def StoreNamesCardSaid : Prop := Claim7.holds Tryz.pinned (.plain (OpenSpec.ofChange storeNamesSpec)) storeNamesCard

/-- THE TIED CARD OF 'marsheslaw08.StoreWhole'. -/
def storeWholeCard : Claim7 := { stood := { row := storeWholeRow, standIns := [], harness := (true, "6c805b5a616cad4cacfec951e76d9e0452bc1eca4594a18881c307b1e5661535"), looks := true }, kinds := [], alts := [], laidByText := true, laidKinds := [.data, .data], laidTests := true, laidLooks := .later }
def StoreWholeCardSaid : Prop := Claim7.holds Tryz.pinned (.plain (OpenSpec.ofChange storeWholeSpec)) storeWholeCard

/-- THE TIED CARD OF 'marsheslaw09.ClosureWalks'. -/
def closureWalksCard : Claim7 := { stood := { row := closureWalksRow, standIns := [], harness := (true, "6c805b5a616cad4cacfec951e76d9e0452bc1eca4594a18881c307b1e5661535"), looks := true }, kinds := [], alts := [], laidByText := true, laidKinds := [.data, .data], laidTests := true, laidLooks := .later }
def ClosureWalksCardSaid : Prop := Claim7.holds Tryz.pinned (.plain (OpenSpec.ofChange closureWalksSpec)) closureWalksCard

/-- THE TIED CARD OF 'marsheslaw09.ClosureSteps'. -/
def closureStepsCard : Claim7 := { stood := { row := closureStepsRow, standIns := [], harness := (true, "6c805b5a616cad4cacfec951e76d9e0452bc1eca4594a18881c307b1e5661535"), looks := true }, kinds := [], alts := [], laidByText := true, laidKinds := [.data, .data], laidTests := true, laidLooks := .later }
def ClosureStepsCardSaid : Prop := Claim7.holds Tryz.pinned (.plain (OpenSpec.ofChange closureStepsSpec)) closureStepsCard

/-- THE TIED CARD OF 'marsheslaw07.ObjectNames'. -/
def objectNamesCard : Claim7 := { stood := { row := objectNamesRow, standIns := [], harness := (true, "6c805b5a616cad4cacfec951e76d9e0452bc1eca4594a18881c307b1e5661535"), looks := true }, kinds := [], alts := [], laidByText := true, laidKinds := [.data, .data], laidTests := true, laidLooks := .later }
def ObjectNamesCardSaid : Prop := Claim7.holds Tryz.pinned (.plain (OpenSpec.ofChange objectNamesSpec)) objectNamesCard

/-- THE TIED CARD OF 'marsheslaw09.ClosureParts'. -/
def closurePartsCard : Claim7 := { stood := { row := closurePartsRow, standIns := [], harness := (true, "6c805b5a616cad4cacfec951e76d9e0452bc1eca4594a18881c307b1e5661535"), looks := true }, kinds := [], alts := [], laidByText := true, laidKinds := [.data, .data], laidTests := true, laidLooks := .later }
def ClosurePartsCardSaid : Prop := Claim7.holds Tryz.pinned (.plain (OpenSpec.ofChange closurePartsSpec)) closurePartsCard

/-- THE TIED CARD OF 'marsheslaw09.ClosureGrows'. -/
def closureGrowsCard : Claim7 := { stood := { row := closureGrowsRow, standIns := [], harness := (true, "6c805b5a616cad4cacfec951e76d9e0452bc1eca4594a18881c307b1e5661535"), looks := true }, kinds := [], alts := [], laidByText := true, laidKinds := [.data, .data], laidTests := true, laidLooks := .later }
def ClosureGrowsCardSaid : Prop := Claim7.holds Tryz.pinned (.plain (OpenSpec.ofChange closureGrowsSpec)) closureGrowsCard

/-- THE SECOND FORM's CARD OF 'marsheslaw08.StoreRoom'. -/
def storeRoomUptoCard : Claim7 := { stood := { row := storeRoomUptoRow, standIns := [], harness := (true, "6c805b5a616cad4cacfec951e76d9e0452bc1eca4594a18881c307b1e5661535"), looks := true }, kinds := [], alts := [], laidByText := true, laidKinds := [.data, .data], laidTests := true, laidLooks := .later }
def StoreRoomUptoCardSaid : Prop := Claim7.holds Tryz.pinned (.plain (OpenSpec.upto storeRoomSpec)) storeRoomUptoCard

/-- THE SECOND FORM's CARD OF 'marsheslaw07.ObjectForms'. -/
def objectFormsUptoCard : Claim7 := { stood := { row := objectFormsUptoRow, standIns := [], harness := (true, "6c805b5a616cad4cacfec951e76d9e0452bc1eca4594a18881c307b1e5661535"), looks := true }, kinds := [], alts := [], laidByText := true, laidKinds := [.data, .data], laidTests := true, laidLooks := .later }
def ObjectFormsUptoCardSaid : Prop := Claim7.holds Tryz.pinned (.plain (OpenSpec.upto objectFormsSpec)) objectFormsUptoCard

/-- THE SECOND FORM's CARD OF 'marsheslaw08.StoreKeeps'. -/
def storeKeepsUptoCard : Claim7 := { stood := { row := storeKeepsUptoRow, standIns := [], harness := (true, "6c805b5a616cad4cacfec951e76d9e0452bc1eca4594a18881c307b1e5661535"), looks := true }, kinds := [], alts := [], laidByText := true, laidKinds := [.data, .data], laidTests := true, laidLooks := .later }
def StoreKeepsUptoCardSaid : Prop := Claim7.holds Tryz.pinned (.plain (OpenSpec.upto storeKeepsSpec)) storeKeepsUptoCard

/-- THE SECOND FORM's CARD OF 'marsheslaw08.StoreOrder'. -/
def storeOrderUptoCard : Claim7 := { stood := { row := storeOrderUptoRow, standIns := [], harness := (true, "6c805b5a616cad4cacfec951e76d9e0452bc1eca4594a18881c307b1e5661535"), looks := true }, kinds := [], alts := [], laidByText := true, laidKinds := [.data, .data], laidTests := true, laidLooks := .later }
def StoreOrderUptoCardSaid : Prop := Claim7.holds Tryz.pinned (.plain (OpenSpec.upto storeOrderSpec)) storeOrderUptoCard

/-- THE SECOND FORM's CARD OF 'marsheslaw08.StorePlays'. -/
def storePlaysUptoCard : Claim7 := { stood := { row := storePlaysUptoRow, standIns := [], harness := (true, "6c805b5a616cad4cacfec951e76d9e0452bc1eca4594a18881c307b1e5661535"), looks := true }, kinds := [], alts := [], laidByText := true, laidKinds := [.data, .data], laidTests := true, laidLooks := .later }
def StorePlaysUptoCardSaid : Prop := Claim7.holds Tryz.pinned (.plain (OpenSpec.upto storePlaysSpec)) storePlaysUptoCard

/-- THE SECOND FORM's CARD OF 'marsheslaw08.StoreNames'. -/
def storeNamesUptoCard : Claim7 := { stood := { row := storeNamesUptoRow, standIns := [], harness := (true, "6c805b5a616cad4cacfec951e76d9e0452bc1eca4594a18881c307b1e5661535"), looks := true }, kinds := [], alts := [], laidByText := true, laidKinds := [.data, .data], laidTests := true, laidLooks := .later }
def StoreNamesUptoCardSaid : Prop := Claim7.holds Tryz.pinned (.plain (OpenSpec.upto storeNamesSpec)) storeNamesUptoCard

/-- THE SECOND FORM's CARD OF 'marsheslaw08.StoreWhole'. -/
def storeWholeUptoCard : Claim7 := { stood := { row := storeWholeUptoRow, standIns := [], harness := (true, "6c805b5a616cad4cacfec951e76d9e0452bc1eca4594a18881c307b1e5661535"), looks := true }, kinds := [], alts := [], laidByText := true, laidKinds := [.data, .data], laidTests := true, laidLooks := .later }
def StoreWholeUptoCardSaid : Prop := Claim7.holds Tryz.pinned (.plain (OpenSpec.upto storeWholeSpec)) storeWholeUptoCard

/-- THE SECOND FORM's CARD OF 'marsheslaw09.ClosureWalks'. -/
def closureWalksUptoCard : Claim7 := { stood := { row := closureWalksUptoRow, standIns := [], harness := (true, "6c805b5a616cad4cacfec951e76d9e0452bc1eca4594a18881c307b1e5661535"), looks := true }, kinds := [], alts := [], laidByText := true, laidKinds := [.data, .data], laidTests := true, laidLooks := .later }
def ClosureWalksUptoCardSaid : Prop := Claim7.holds Tryz.pinned (.plain (OpenSpec.upto closureWalksSpec)) closureWalksUptoCard

/-- THE SECOND FORM's CARD OF 'marsheslaw09.ClosureSteps'. -/
def closureStepsUptoCard : Claim7 := { stood := { row := closureStepsUptoRow, standIns := [], harness := (true, "6c805b5a616cad4cacfec951e76d9e0452bc1eca4594a18881c307b1e5661535"), looks := true }, kinds := [], alts := [], laidByText := true, laidKinds := [.data, .data], laidTests := true, laidLooks := .later }
def ClosureStepsUptoCardSaid : Prop := Claim7.holds Tryz.pinned (.plain (OpenSpec.upto closureStepsSpec)) closureStepsUptoCard

/-- THE SECOND FORM's CARD OF 'marsheslaw07.ObjectNames'. -/
def objectNamesUptoCard : Claim7 := { stood := { row := objectNamesUptoRow, standIns := [], harness := (true, "6c805b5a616cad4cacfec951e76d9e0452bc1eca4594a18881c307b1e5661535"), looks := true }, kinds := [], alts := [], laidByText := true, laidKinds := [.data, .data], laidTests := true, laidLooks := .later }
def ObjectNamesUptoCardSaid : Prop := Claim7.holds Tryz.pinned (.plain (OpenSpec.upto objectNamesSpec)) objectNamesUptoCard

/-- THE SECOND FORM's CARD OF 'marsheslaw09.ClosureParts'. -/
def closurePartsUptoCard : Claim7 := { stood := { row := closurePartsUptoRow, standIns := [], harness := (true, "6c805b5a616cad4cacfec951e76d9e0452bc1eca4594a18881c307b1e5661535"), looks := true }, kinds := [], alts := [], laidByText := true, laidKinds := [.data, .data], laidTests := true, laidLooks := .later }
def ClosurePartsUptoCardSaid : Prop := Claim7.holds Tryz.pinned (.plain (OpenSpec.upto closurePartsSpec)) closurePartsUptoCard

/-- THE SECOND FORM's CARD OF 'marsheslaw09.ClosureGrows'. -/
def closureGrowsUptoCard : Claim7 := { stood := { row := closureGrowsUptoRow, standIns := [], harness := (true, "6c805b5a616cad4cacfec951e76d9e0452bc1eca4594a18881c307b1e5661535"), looks := true }, kinds := [], alts := [], laidByText := true, laidKinds := [.data, .data], laidTests := true, laidLooks := .later }
def ClosureGrowsUptoCardSaid : Prop := Claim7.holds Tryz.pinned (.plain (OpenSpec.upto closureGrowsSpec)) closureGrowsUptoCard
end Rows
end Go.Proofs.YtmjmaloapafnlaaGreatDoor
