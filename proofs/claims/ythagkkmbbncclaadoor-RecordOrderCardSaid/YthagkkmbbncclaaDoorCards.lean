/-
  DERIVED. GIVEN WITH THE SEED: THE CARDS: each row of YthagkkmbbncclaaDoorRows.lean that lists a variable, with what it lists TIED to the program's text (the seventh form; the later family's looks); each row that meets fmt, with fmt's text TOLD by the authors' own Lean function (tested against real Go, not proved from fmt's source: count such statements apart). THE CARD IS WHAT COUNTS. Prove the row's statement (the work); the ties are given (YthagkkmbbncclaaDoorTie.lean); close each card by the builder's one call (the guide's Derived/Test/ToyasCard.lean, 'card_holds'). Laid BY PROGRAM, IN A SANDBOX (cutbox-door.mjs). By AI agents, Wed Nov 11 2026. No macro, syntax, notation, axiom, sorry.
-/
import Derived.Test.YthagkkmbbncclaaDoorRows
import GoSem.ClaimSeven
namespace Go.Proofs.YthagkkmbbncclaaDoor
namespace Rows

/-- THE TIED CARD OF 'marsheslaw12.RecordSites'. -/
def recordSitesCard : Claim7 := { stood := { row := recordSitesRow, standIns := [], harness := (true, "2e0fb256a1849a89db2df245b2a055dcb9cfecac8a7166a626cbeb678fbd1040"), looks := false }, kinds := [], alts := [], laidByText := true, laidKinds := [.data, .pinned], laidTests := true, laidLooks := .later }
def RecordSitesCardSaid : Prop := Claim7.holds Tryd.pinned (.plain (OpenSpec.ofChange recordSitesSpec)) recordSitesCard

/-- THE TIED CARD OF 'marsheslaw12.RecordForms'. -/
def recordFormsCard : Claim7 := { stood := { row := recordFormsRow, standIns := [], harness := (true, "2e0fb256a1849a89db2df245b2a055dcb9cfecac8a7166a626cbeb678fbd1040"), looks := false }, kinds := [], alts := [], laidByText := true, laidKinds := [.data, .pinned], laidTests := true, laidLooks := .later }
def RecordFormsCardSaid : Prop := Claim7.holds Tryd.pinned (.plain (OpenSpec.ofChange recordFormsSpec)) recordFormsCard

/-- THE TIED CARD OF 'marsheslaw12.RecordBack'. -/
def recordBackCard : Claim7 := { stood := { row := recordBackRow, standIns := [], harness := (true, "2e0fb256a1849a89db2df245b2a055dcb9cfecac8a7166a626cbeb678fbd1040"), looks := false }, kinds := [], alts := [], laidByText := true, laidKinds := [.data, .pinned], laidTests := true, laidLooks := .later }
def RecordBackCardSaid : Prop := Claim7.holds Tryd.pinned (.plain (OpenSpec.ofChange recordBackSpec)) recordBackCard

/-- THE TIED CARD OF 'marsheslaw12.RecordStands'. -/
def recordStandsCard : Claim7 := { stood := { row := recordStandsRow, standIns := [], harness := (true, "2e0fb256a1849a89db2df245b2a055dcb9cfecac8a7166a626cbeb678fbd1040"), looks := false }, kinds := [], alts := [], laidByText := true, laidKinds := [.data, .pinned], laidTests := true, laidLooks := .later }
def RecordStandsCardSaid : Prop := Claim7.holds Tryd.pinned (.plain (OpenSpec.ofChange recordStandsSpec)) recordStandsCard

/-- THE TIED CARD OF 'marsheslaw12.RecordOrder'. -/
def recordOrderCard : Claim7 := { stood := { row := recordOrderRow, standIns := [], harness := (true, "2e0fb256a1849a89db2df245b2a055dcb9cfecac8a7166a626cbeb678fbd1040"), looks := false }, kinds := [], alts := [], laidByText := true, laidKinds := [.data, .pinned], laidTests := true, laidLooks := .later }
def RecordOrderCardSaid : Prop := Claim7.holds Tryd.pinned (.plain (OpenSpec.ofChange recordOrderSpec)) recordOrderCard

/-- THE SECOND FORM's CARD OF 'marsheslaw12.RecordSites'. -/
def recordSitesUptoCard : Claim7 := { stood := { row := recordSitesUptoRow, standIns := [], harness := (true, "2e0fb256a1849a89db2df245b2a055dcb9cfecac8a7166a626cbeb678fbd1040"), looks := false }, kinds := [], alts := [], laidByText := true, laidKinds := [.data, .pinned], laidTests := true, laidLooks := .later }
def RecordSitesUptoCardSaid : Prop := Claim7.holds Tryd.pinned (.plain (OpenSpec.upto recordSitesSpec)) recordSitesUptoCard

/-- THE SECOND FORM's CARD OF 'marsheslaw12.RecordForms'. -/
def recordFormsUptoCard : Claim7 := { stood := { row := recordFormsUptoRow, standIns := [], harness := (true, "2e0fb256a1849a89db2df245b2a055dcb9cfecac8a7166a626cbeb678fbd1040"), looks := false }, kinds := [], alts := [], laidByText := true, laidKinds := [.data, .pinned], laidTests := true, laidLooks := .later }
def RecordFormsUptoCardSaid : Prop := Claim7.holds Tryd.pinned (.plain (OpenSpec.upto recordFormsSpec)) recordFormsUptoCard

/-- THE SECOND FORM's CARD OF 'marsheslaw12.RecordBack'. -/
def recordBackUptoCard : Claim7 := { stood := { row := recordBackUptoRow, standIns := [], harness := (true, "2e0fb256a1849a89db2df245b2a055dcb9cfecac8a7166a626cbeb678fbd1040"), looks := false }, kinds := [], alts := [], laidByText := true, laidKinds := [.data, .pinned], laidTests := true, laidLooks := .later }
def RecordBackUptoCardSaid : Prop := Claim7.holds Tryd.pinned (.plain (OpenSpec.upto recordBackSpec)) recordBackUptoCard

/-- THE SECOND FORM's CARD OF 'marsheslaw12.RecordStands'. -/
def recordStandsUptoCard : Claim7 := { stood := { row := recordStandsUptoRow, standIns := [], harness := (true, "2e0fb256a1849a89db2df245b2a055dcb9cfecac8a7166a626cbeb678fbd1040"), looks := false }, kinds := [], alts := [], laidByText := true, laidKinds := [.data, .pinned], laidTests := true, laidLooks := .later }
def RecordStandsUptoCardSaid : Prop := Claim7.holds Tryd.pinned (.plain (OpenSpec.upto recordStandsSpec)) recordStandsUptoCard

/-- THE SECOND FORM's CARD OF 'marsheslaw12.RecordOrder'. -/
def recordOrderUptoCard : Claim7 := { stood := { row := recordOrderUptoRow, standIns := [], harness := (true, "2e0fb256a1849a89db2df245b2a055dcb9cfecac8a7166a626cbeb678fbd1040"), looks := false }, kinds := [], alts := [], laidByText := true, laidKinds := [.data, .pinned], laidTests := true, laidLooks := .later }
def RecordOrderUptoCardSaid : Prop := Claim7.holds Tryd.pinned (.plain (OpenSpec.upto recordOrderSpec)) recordOrderUptoCard
end Rows
end Go.Proofs.YthagkkmbbncclaaDoor
