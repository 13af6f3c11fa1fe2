/-
  DERIVED. GIVEN WITH THE SEED: THE CARDS: each row of YtcmnmigcalibdaaGreatDoorRows.lean that lists a variable, with what it lists TIED to the program's text (the seventh form; the later family's looks); each row that meets fmt, with fmt's text TOLD by the authors' own Lean function (tested against real Go, not proved from fmt's source: count such statements apart). THE CARD IS WHAT COUNTS. Prove the row's statement (the work); the ties are given (YtcmnmigcalibdaaGreatDoorTie.lean); close each card by the builder's one call (the guide's Derived/Test/ToyasCard.lean, 'card_holds'). Laid BY PROGRAM, IN A SANDBOX (cutbox-door.mjs). By AI agents, Wed Nov 11 2026. No macro, syntax, notation, axiom, sorry.
-/
import Derived.Test.YtcmnmigcalibdaaGreatDoorRows
import GoSem.ClaimSeven
namespace Go.Proofs.YtcmnmigcalibdaaGreatDoor
namespace Rows

/-- THE TIED CARD OF 'marsheslaw08.StoreOrder'. -/
def storeOrderCard : Claim7 := { stood := { row := storeOrderRow, standIns := [], harness := (true, "85d08d006eaac9df2bf0c8cdad45b295e8d1fc2921acaf609034228d5bb2f248"), looks := true }, kinds := [], alts := [], laidByText := true, laidKinds := [.data, .data], laidTests := true, laidLooks := .later }
def StoreOrderCardSaid : Prop := Claim7.holds Tryz.pinned (.plain (OpenSpec.ofChange storeOrderSpec)) storeOrderCard

/-- THE TIED CARD OF 'marsheslaw08.StorePlays'. -/
def storePlaysCard : Claim7 := { stood := { row := storePlaysRow, standIns := [], harness := (true, "85d08d006eaac9df2bf0c8cdad45b295e8d1fc2921acaf609034228d5bb2f248"), looks := true }, kinds := [], alts := [], laidByText := true, laidKinds := [.data, .data], laidTests := true, laidLooks := .later }
def StorePlaysCardSaid : Prop := Claim7.holds Tryz.pinned (.plain (OpenSpec.ofChange storePlaysSpec)) storePlaysCard

/-- THE TIED CARD OF 'marsheslaw08.StoreNames'. -/
def storeNamesCard : Claim7 := { stood := { row := storeNamesRow, standIns := [], harness := (true, "85d08d006eaac9df2bf0c8cdad45b295e8d1fc2921acaf609034228d5bb2f248"), looks := true }, kinds := [], alts := [], laidByText := true, laidKinds := [.data, .data], laidTests := true, laidLooks := .later }
def StoreNamesCardSaid : Prop := Claim7.holds Tryz.pinned (.plain (OpenSpec.ofChange storeNamesSpec)) storeNamesCard

/-- THE TIED CARD OF 'marsheslaw12.RecordNames'. -/
def recordNamesCard : Claim7 := { stood := { row := recordNamesRow, standIns := [], harness := (true, "85d08d006eaac9df2bf0c8cdad45b295e8d1fc2921acaf609034228d5bb2f248"), looks := true }, kinds := [], alts := [], laidByText := true, laidKinds := [.data, .pinned], laidTests := true, laidLooks := .later }
def RecordNamesCardSaid : Prop := Claim7.holds Tryz.pinned (.plain (OpenSpec.ofChange recordNamesSpec)) recordNamesCard

/-- THE TIED CARD OF 'marsheslaw08.StoreWhole'. -/
def storeWholeCard : Claim7 := { stood := { row := storeWholeRow, standIns := [], harness := (true, "85d08d006eaac9df2bf0c8cdad45b295e8d1fc2921acaf609034228d5bb2f248"), looks := true }, kinds := [], alts := [], laidByText := true, laidKinds := [.data, .data], laidTests := true, laidLooks := .later }
def StoreWholeCardSaid : Prop := Claim7.holds Tryz.pinned (.plain (OpenSpec.ofChange storeWholeSpec)) storeWholeCard

/-- THE TIED CARD OF 'marsheslaw09.ClosureWalks'. -/
def closureWalksCard : Claim7 := { stood := { row := closureWalksRow, standIns := [], harness := (true, "85d08d006eaac9df2bf0c8cdad45b295e8d1fc2921acaf609034228d5bb2f248"), looks := true }, kinds := [], alts := [], laidByText := true, laidKinds := [.data, .data], laidTests := true, laidLooks := .later }
def ClosureWalksCardSaid : Prop := Claim7.holds Tryz.pinned (.plain (OpenSpec.ofChange closureWalksSpec)) closureWalksCard

/-- THE TIED CARD OF 'marsheslaw09.ClosureSteps'. -/
def closureStepsCard : Claim7 := { stood := { row := closureStepsRow, standIns := [], harness := (true, "85d08d006eaac9df2bf0c8cdad45b295e8d1fc2921acaf609034228d5bb2f248"), looks := true }, kinds := [], alts := [], laidByText := true, laidKinds := [.data, .data], laidTests := true, laidLooks := .later }
def ClosureStepsCardSaid : Prop := Claim7.holds Tryz.pinned (.plain (OpenSpec.ofChange closureStepsSpec)) closureStepsCard

/-- THE TIED CARD OF 'marsheslaw07.ObjectNames'. -/
def objectNamesCard : Claim7 := { stood := { row := objectNamesRow, standIns := [], harness := (true, "85d08d006eaac9df2bf0c8cdad45b295e8d1fc2921acaf609034228d5bb2f248"), looks := true }, kinds := [], alts := [], laidByText := true, laidKinds := [.data, .data], laidTests := true, laidLooks := .later }
def ObjectNamesCardSaid : Prop := Claim7.holds Tryz.pinned (.plain (OpenSpec.ofChange objectNamesSpec)) objectNamesCard

/-- THE TIED CARD OF 'marsheslaw09.ClosureParts'. -/
def closurePartsCard : Claim7 := { stood := { row := closurePartsRow, standIns := [], harness := (true, "85d08d006eaac9df2bf0c8cdad45b295e8d1fc2921acaf609034228d5bb2f248"), looks := true }, kinds := [], alts := [], laidByText := true, laidKinds := [.data, .data], laidTests := true, laidLooks := .later }
def ClosurePartsCardSaid : Prop := Claim7.holds Tryz.pinned (.plain (OpenSpec.ofChange closurePartsSpec)) closurePartsCard

/-- THE TIED CARD OF 'marsheslaw09.ClosureGrows'. -/
def closureGrowsCard : Claim7 := { stood := { row := closureGrowsRow, standIns := [], harness := (true, "85d08d006eaac9df2bf0c8cdad45b295e8d1fc2921acaf609034228d5bb2f248"), looks := true }, kinds := [], alts := [], laidByText := true, laidKinds := [.data, .data], laidTests := true, laidLooks := .later }
def ClosureGrowsCardSaid : Prop := Claim7.holds Tryz.pinned (.plain (OpenSpec.ofChange closureGrowsSpec)) closureGrowsCard

/-- THE TIED CARD OF 'marsheslaw09.ClosureRises'. -/
def closureRisesCard : Claim7 := { stood := { row := closureRisesRow, standIns := [], harness := (true, "85d08d006eaac9df2bf0c8cdad45b295e8d1fc2921acaf609034228d5bb2f248"), looks := true }, kinds := [], alts := [], laidByText := true, laidKinds := [.data, .data], laidTests := true, laidLooks := .later }
def ClosureRisesCardSaid : Prop := Claim7.holds Tryz.pinned (.plain (OpenSpec.ofChange closureRisesSpec)) closureRisesCard

/-- THE TIED CARD OF 'marsheslaw09.ClosureNames'. -/
def closureNamesCard : Claim7 := { stood := { row := closureNamesRow, standIns := [], harness := (true, "85d08d006eaac9df2bf0c8cdad45b295e8d1fc2921acaf609034228d5bb2f248"), looks := true }, kinds := [], alts := [], laidByText := true, laidKinds := [.data, .data], laidTests := true, laidLooks := .later }
def ClosureNamesCardSaid : Prop := Claim7.holds Tryz.pinned (.plain (OpenSpec.ofChange closureNamesSpec)) closureNamesCard

/-- THE SECOND FORM's CARD OF 'marsheslaw08.StoreOrder'. -/
def storeOrderUptoCard : Claim7 := { stood := { row := storeOrderUptoRow, standIns := [], harness := (true, "85d08d006eaac9df2bf0c8cdad45b295e8d1fc2921acaf609034228d5bb2f248"), looks := true }, kinds := [], alts := [], laidByText := true, laidKinds := [.data, .data], laidTests := true, laidLooks := .later }
def StoreOrderUptoCardSaid : Prop := Claim7.holds Tryz.pinned (.plain (OpenSpec.upto storeOrderSpec)) storeOrderUptoCard

/-- THE SECOND FORM's CARD OF 'marsheslaw08.StorePlays'. -/
def storePlaysUptoCard : Claim7 := { stood := { row := storePlaysUptoRow, standIns := [], harness := (true, "85d08d006eaac9df2bf0c8cdad45b295e8d1fc2921acaf609034228d5bb2f248"), looks := true }, kinds := [], alts := [], laidByText := true, laidKinds := [.data, .data], laidTests := true, laidLooks := .later }
def StorePlaysUptoCardSaid : Prop := Claim7.holds Tryz.pinned (.plain (OpenSpec.upto storePlaysSpec)) storePlaysUptoCard

/-- THE SECOND FORM's CARD OF 'marsheslaw08.StoreNames'. -/
def storeNamesUptoCard : Claim7 := { stood := { row := storeNamesUptoRow, standIns := [], harness := (true, "85d08d006eaac9df2bf0c8cdad45b295e8d1fc2921acaf609034228d5bb2f248"), looks := true }, kinds := [], alts := [], laidByText := true, laidKinds := [.data, .data], laidTests := true, laidLooks := .later }
def StoreNamesUptoCardSaid : Prop := Claim7.holds Tryz.pinned (.plain (OpenSpec.upto storeNamesSpec)) storeNamesUptoCard

/-- THE SECOND FORM's CARD OF 'marsheslaw12.RecordNames'. -/
def recordNamesUptoCard : Claim7 := { stood := { row := recordNamesUptoRow, standIns := [], harness := (true, "85d08d006eaac9df2bf0c8cdad45b295e8d1fc2921acaf609034228d5bb2f248"), looks := true }, kinds := [], alts := [], laidByText := true, laidKinds := [.data, .pinned], laidTests := true, laidLooks := .later }
def RecordNamesUptoCardSaid : Prop := Claim7.holds Tryz.pinned (.plain (OpenSpec.upto recordNamesSpec)) recordNamesUptoCard

/-- THE SECOND FORM's CARD OF 'marsheslaw08.StoreWhole'. -/
def storeWholeUptoCard : Claim7 := { stood := { row := storeWholeUptoRow, standIns := [], harness := (true, "85d08d006eaac9df2bf0c8cdad45b295e8d1fc2921acaf609034228d5bb2f248"), looks := true }, kinds := [], alts := [], laidByText := true, laidKinds := [.data, .data], laidTests := true, laidLooks := .later }
def StoreWholeUptoCardSaid : Prop := Claim7.holds Tryz.pinned (.plain (OpenSpec.upto storeWholeSpec)) storeWholeUptoCard

/-- THE SECOND FORM's CARD OF 'marsheslaw09.ClosureWalks'. -/
def closureWalksUptoCard : Claim7 := { stood := { row := closureWalksUptoRow, standIns := [], harness := (true, "85d08d006eaac9df2bf0c8cdad45b295e8d1fc2921acaf609034228d5bb2f248"), looks := true }, kinds := [], alts := [], laidByText := true, laidKinds := [.data, .data], laidTests := true, laidLooks := .later }
def ClosureWalksUptoCardSaid : Prop := Claim7.holds Tryz.pinned (.plain (OpenSpec.upto closureWalksSpec)) closureWalksUptoCard

/-- THE SECOND FORM's CARD OF 'marsheslaw09.ClosureSteps'. -/
def closureStepsUptoCard : Claim7 := { stood := { row := closureStepsUptoRow, standIns := [], harness := (true, "85d08d006eaac9df2bf0c8cdad45b295e8d1fc2921acaf609034228d5bb2f248"), looks := true }, kinds := [], alts := [], laidByText := true, laidKinds := [.data, .data], laidTests := true, laidLooks := .later }
def ClosureStepsUptoCardSaid : Prop := Claim7.holds Tryz.pinned (.plain (OpenSpec.upto closureStepsSpec)) closureStepsUptoCard

/-- THE SECOND FORM's CARD OF 'marsheslaw07.ObjectNames'. -/
def objectNamesUptoCard : Claim7 := { stood := { row := objectNamesUptoRow, standIns := [], harness := (true, "85d08d006eaac9df2bf0c8cdad45b295e8d1fc2921acaf609034228d5bb2f248"), looks := true }, kinds := [], alts := [], laidByText := true, laidKinds := [.data, .data], laidTests := true, laidLooks := .later }
def ObjectNamesUptoCardSaid : Prop := Claim7.holds Tryz.pinned (.plain (OpenSpec.upto objectNamesSpec)) objectNamesUptoCard

/-- THE SECOND FORM's CARD OF 'marsheslaw09.ClosureParts'. -/
def closurePartsUptoCard : Claim7 := { stood := { row := closurePartsUptoRow, standIns := [], harness := (true, "85d08d006eaac9df2bf0c8cdad45b295e8d1fc2921acaf609034228d5bb2f248"), looks := true }, kinds := [], alts := [], laidByText := true, laidKinds := [.data, .data], laidTests := true, laidLooks := .later }
def ClosurePartsUptoCardSaid : Prop := Claim7.holds Tryz.pinned (.plain (OpenSpec.upto closurePartsSpec)) closurePartsUptoCard

/-- THE SECOND FORM's CARD OF 'marsheslaw09.ClosureGrows'. -/
def closureGrowsUptoCard : Claim7 := { stood := { row := closureGrowsUptoRow, standIns := [], harness := (true, "85d08d006eaac9df2bf0c8cdad45b295e8d1fc2921acaf609034228d5bb2f248"), looks := true }, kinds := [], alts := [], laidByText := true, laidKinds := [.data, .data], laidTests := true, laidLooks := .later }
def ClosureGrowsUptoCardSaid : Prop := Claim7.holds Tryz.pinned (.plain (OpenSpec.upto closureGrowsSpec)) closureGrowsUptoCard

/-- THE SECOND FORM's CARD OF 'marsheslaw09.ClosureRises'. -/
def closureRisesUptoCard : Claim7 := { stood := { row := closureRisesUptoRow, standIns := [], harness := (true, "85d08d006eaac9df2bf0c8cdad45b295e8d1fc2921acaf609034228d5bb2f248"), looks := true }, kinds := [], alts := [], laidByText := true, laidKinds := [.data, .data], laidTests := true, laidLooks := .later }
def ClosureRisesUptoCardSaid : Prop := Claim7.holds Tryz.pinned (.plain (OpenSpec.upto closureRisesSpec)) closureRisesUptoCard

/-- THE SECOND FORM's CARD OF 'marsheslaw09.ClosureNames'. -/
def closureNamesUptoCard : Claim7 := { stood := { row := closureNamesUptoRow, standIns := [], harness := (true, "85d08d006eaac9df2bf0c8cdad45b295e8d1fc2921acaf609034228d5bb2f248"), looks := true }, kinds := [], alts := [], laidByText := true, laidKinds := [.data, .data], laidTests := true, laidLooks := .later }
def ClosureNamesUptoCardSaid : Prop := Claim7.holds Tryz.pinned (.plain (OpenSpec.upto closureNamesSpec)) closureNamesUptoCard
end Rows
end Go.Proofs.YtcmnmigcalibdaaGreatDoor
