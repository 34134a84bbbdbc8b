/-
  DERIVED. GIVEN WITH THE SEED: THE CARDS: each row of YtjihhflffkoffaaGreatDoorRows.lean that lists a variable, with what it lists TIED to the program's text (the seventh form; the later family's looks); each row that meets fmt, with fmt's text TOLD by the authors' own Lean function (tested against real Go, not proved from fmt's source: count such statements apart). THE CARD IS WHAT COUNTS. Prove the row's statement (the work); the ties are given (YtjihhflffkoffaaGreatDoorTie.lean); close each card by the builder's one call (the guide's Derived/Test/ToyasCard.lean, 'card_holds'). Laid BY PROGRAM, IN A SANDBOX (cutbox-door.mjs). By AI agents, Wed Nov 11 2026. No macro, syntax, notation, axiom, sorry.
-/
import Derived.Test.YtjihhflffkoffaaGreatDoorRows
import GoSem.ClaimSeven
namespace Go.Proofs.YtjihhflffkoffaaGreatDoor
namespace Rows

/-- THE TIED CARD OF 'octavolaw09.TokenLexes'. -/
def tokenLexesCard : Claim7 := { stood := { row := tokenLexesRow, standIns := [], harness := (true, "0c8e1e1daa64a09c5af80fb3260cf5d3fd6d2444d9c270209e8fa862cad925e7"), looks := true }, kinds := [], alts := [], laidByText := true, laidKinds := [.data, .pinned], laidTests := true, laidLooks := .later }
def TokenLexesCardSaid : Prop := Claim7.holds Tryz.pinned (.plain (OpenSpec.ofChange tokenLexesSpec)) tokenLexesCard

/-- THE TIED CARD OF 'octavolaw11.NamesCmps'. -/
def namesCmpsCard : Claim7 := { stood := { row := namesCmpsRow, standIns := [], harness := (true, "0c8e1e1daa64a09c5af80fb3260cf5d3fd6d2444d9c270209e8fa862cad925e7"), looks := true }, kinds := [], alts := [], laidByText := true, laidKinds := [.data, .pinned], laidTests := true, laidLooks := .later }
def NamesCmpsCardSaid : Prop := Claim7.holds Tryz.pinned (.plain (OpenSpec.ofChange namesCmpsSpec)) namesCmpsCard

/-- THE TIED CARD OF 'octavolaw11.NamesScopes'. -/
def namesScopesCard : Claim7 := { stood := { row := namesScopesRow, standIns := [], harness := (true, "0c8e1e1daa64a09c5af80fb3260cf5d3fd6d2444d9c270209e8fa862cad925e7"), looks := true }, kinds := [], alts := [], laidByText := true, laidKinds := [.data, .pinned], laidTests := true, laidLooks := .later }
def NamesScopesCardSaid : Prop := Claim7.holds Tryz.pinned (.plain (OpenSpec.ofChange namesScopesSpec)) namesScopesCard

/-- THE TIED CARD OF 'octavolaw11.NamesGrow'. -/
def namesGrowCard : Claim7 := { stood := { row := namesGrowRow, standIns := [], harness := (true, "0c8e1e1daa64a09c5af80fb3260cf5d3fd6d2444d9c270209e8fa862cad925e7"), looks := true }, kinds := [], alts := [], laidByText := true, laidKinds := [.data, .pinned], laidTests := true, laidLooks := .later }
def NamesGrowCardSaid : Prop := Claim7.holds Tryz.pinned (.plain (OpenSpec.ofChange namesGrowSpec)) namesGrowCard

/-- THE TIED CARD OF 'octavolaw12.SheetSheets'. -/
def sheetSheetsCard : Claim7 := { stood := { row := sheetSheetsRow, standIns := [], harness := (true, "0c8e1e1daa64a09c5af80fb3260cf5d3fd6d2444d9c270209e8fa862cad925e7"), looks := true }, kinds := [], alts := [], laidByText := true, laidKinds := [.data, .pinned], laidTests := true, laidLooks := .later }
def SheetSheetsCardSaid : Prop := Claim7.holds Tryz.pinned (.plain (OpenSpec.ofChange sheetSheetsSpec)) sheetSheetsCard

/-- THE TIED CARD OF 'octavolaw10.FormulaPrints'. -/
def formulaPrintsCard : Claim7 := { stood := { row := formulaPrintsRow, standIns := [], harness := (true, "0c8e1e1daa64a09c5af80fb3260cf5d3fd6d2444d9c270209e8fa862cad925e7"), looks := true }, kinds := [], alts := [], laidByText := true, laidKinds := [.data, .pinned], laidTests := true, laidLooks := .later }
def FormulaPrintsCardSaid : Prop := Claim7.holds Tryz.pinned (.plain (OpenSpec.ofChange formulaPrintsSpec)) formulaPrintsCard

/-- THE TIED CARD OF 'octavolaw10.FormulaBack'. -/
def formulaBackCard : Claim7 := { stood := { row := formulaBackRow, standIns := [], harness := (true, "0c8e1e1daa64a09c5af80fb3260cf5d3fd6d2444d9c270209e8fa862cad925e7"), looks := true }, kinds := [], alts := [], laidByText := true, laidKinds := [.data, .pinned], laidTests := true, laidLooks := .later }
def FormulaBackCardSaid : Prop := Claim7.holds Tryz.pinned (.plain (OpenSpec.ofChange formulaBackSpec)) formulaBackCard

/-- THE TIED CARD OF 'octavolaw10.FormulaSizes'. -/
def formulaSizesCard : Claim7 := { stood := { row := formulaSizesRow, standIns := [], harness := (true, "0c8e1e1daa64a09c5af80fb3260cf5d3fd6d2444d9c270209e8fa862cad925e7"), looks := true }, kinds := [], alts := [], laidByText := true, laidKinds := [.data, .pinned], laidTests := true, laidLooks := .later }
def FormulaSizesCardSaid : Prop := Claim7.holds Tryz.pinned (.plain (OpenSpec.ofChange formulaSizesSpec)) formulaSizesCard

/-- THE TIED CARD OF 'octavolaw12.SheetRight'. -/
def sheetRightCard : Claim7 := { stood := { row := sheetRightRow, standIns := [], harness := (true, "0c8e1e1daa64a09c5af80fb3260cf5d3fd6d2444d9c270209e8fa862cad925e7"), looks := true }, kinds := [], alts := [], laidByText := true, laidKinds := [.data, .pinned], laidTests := true, laidLooks := .later }
def SheetRightCardSaid : Prop := Claim7.holds Tryz.pinned (.plain (OpenSpec.ofChange sheetRightSpec)) sheetRightCard

/-- THE TIED CARD OF 'octavolaw10.FormulaParses'. -/
def formulaParsesCard : Claim7 := { stood := { row := formulaParsesRow, standIns := [], harness := (true, "0c8e1e1daa64a09c5af80fb3260cf5d3fd6d2444d9c270209e8fa862cad925e7"), looks := true }, kinds := [], alts := [], laidByText := true, laidKinds := [.data, .pinned], laidTests := true, laidLooks := .later }
def FormulaParsesCardSaid : Prop := Claim7.holds Tryz.pinned (.plain (OpenSpec.ofChange formulaParsesSpec)) formulaParsesCard

/-- THE TIED CARD OF 'octavolaw10.FormulaCompares'. -/
def formulaComparesCard : Claim7 := { stood := { row := formulaComparesRow, standIns := [], harness := (true, "0c8e1e1daa64a09c5af80fb3260cf5d3fd6d2444d9c270209e8fa862cad925e7"), looks := true }, kinds := [], alts := [], laidByText := true, laidKinds := [.data, .pinned], laidTests := true, laidLooks := .later }
def FormulaComparesCardSaid : Prop := Claim7.holds Tryz.pinned (.plain (OpenSpec.ofChange formulaComparesSpec)) formulaComparesCard

/-- THE TIED CARD OF 'octavolaw14.RewriteTexts'. -/
def rewriteTextsCard : Claim7 := { stood := { row := rewriteTextsRow, standIns := [], harness := (true, "0c8e1e1daa64a09c5af80fb3260cf5d3fd6d2444d9c270209e8fa862cad925e7"), looks := true }, kinds := [], alts := [], laidByText := true, laidKinds := [.data, .pinned], laidTests := true, laidLooks := .later }
def RewriteTextsCardSaid : Prop := Claim7.holds Tryz.pinned (.plain (OpenSpec.ofChange rewriteTextsSpec)) rewriteTextsCard

/-- THE TIED CARD OF 'octavolaw14.RewriteBack'. -/
def rewriteBackCard : Claim7 := { stood := { row := rewriteBackRow, standIns := [], harness := (true, "0c8e1e1daa64a09c5af80fb3260cf5d3fd6d2444d9c270209e8fa862cad925e7"), looks := true }, kinds := [], alts := [], laidByText := true, laidKinds := [.data, .pinned], laidTests := true, laidLooks := .later }
def RewriteBackCardSaid : Prop := Claim7.holds Tryz.pinned (.plain (OpenSpec.ofChange rewriteBackSpec)) rewriteBackCard

/-- THE TIED CARD OF 'octavolaw14.RewriteNodes'. -/
def rewriteNodesCard : Claim7 := { stood := { row := rewriteNodesRow, standIns := [], harness := (true, "0c8e1e1daa64a09c5af80fb3260cf5d3fd6d2444d9c270209e8fa862cad925e7"), looks := true }, kinds := [], alts := [], laidByText := true, laidKinds := [.data, .pinned], laidTests := true, laidLooks := .later }
def RewriteNodesCardSaid : Prop := Claim7.holds Tryz.pinned (.plain (OpenSpec.ofChange rewriteNodesSpec)) rewriteNodesCard

/-- THE TIED CARD OF 'octavolaw14.RewritePlaces'. -/
def rewritePlacesCard : Claim7 := { stood := { row := rewritePlacesRow, standIns := [], harness := (true, "0c8e1e1daa64a09c5af80fb3260cf5d3fd6d2444d9c270209e8fa862cad925e7"), looks := true }, kinds := [], alts := [], laidByText := true, laidKinds := [.data, .pinned], laidTests := true, laidLooks := .later }
def RewritePlacesCardSaid : Prop := Claim7.holds Tryz.pinned (.plain (OpenSpec.ofChange rewritePlacesSpec)) rewritePlacesCard

/-- THE SECOND FORM's CARD OF 'octavolaw09.TokenLexes'. -/
def tokenLexesUptoCard : Claim7 := { stood := { row := tokenLexesUptoRow, standIns := [], harness := (true, "0c8e1e1daa64a09c5af80fb3260cf5d3fd6d2444d9c270209e8fa862cad925e7"), looks := true }, kinds := [], alts := [], laidByText := true, laidKinds := [.data, .pinned], laidTests := true, laidLooks := .later }
def TokenLexesUptoCardSaid : Prop := Claim7.holds Tryz.pinned (.plain (OpenSpec.upto tokenLexesSpec)) tokenLexesUptoCard

/-- THE SECOND FORM's CARD OF 'octavolaw11.NamesCmps'. -/
def namesCmpsUptoCard : Claim7 := { stood := { row := namesCmpsUptoRow, standIns := [], harness := (true, "0c8e1e1daa64a09c5af80fb3260cf5d3fd6d2444d9c270209e8fa862cad925e7"), looks := true }, kinds := [], alts := [], laidByText := true, laidKinds := [.data, .pinned], laidTests := true, laidLooks := .later }
def NamesCmpsUptoCardSaid : Prop := Claim7.holds Tryz.pinned (.plain (OpenSpec.upto namesCmpsSpec)) namesCmpsUptoCard

/-- THE SECOND FORM's CARD OF 'octavolaw11.NamesScopes'. -/
def namesScopesUptoCard : Claim7 := { stood := { row := namesScopesUptoRow, standIns := [], harness := (true, "0c8e1e1daa64a09c5af80fb3260cf5d3fd6d2444d9c270209e8fa862cad925e7"), looks := true }, kinds := [], alts := [], laidByText := true, laidKinds := [.data, .pinned], laidTests := true, laidLooks := .later }
def NamesScopesUptoCardSaid : Prop := Claim7.holds Tryz.pinned (.plain (OpenSpec.upto namesScopesSpec)) namesScopesUptoCard

/-- THE SECOND FORM's CARD OF 'octavolaw11.NamesGrow'. -/
def namesGrowUptoCard : Claim7 := { stood := { row := namesGrowUptoRow, standIns := [], harness := (true, "0c8e1e1daa64a09c5af80fb3260cf5d3fd6d2444d9c270209e8fa862cad925e7"), looks := true }, kinds := [], alts := [], laidByText := true, laidKinds := [.data, .pinned], laidTests := true, laidLooks := .later }
def NamesGrowUptoCardSaid : Prop := Claim7.holds Tryz.pinned (.plain (OpenSpec.upto namesGrowSpec)) namesGrowUptoCard

/-- THE SECOND FORM's CARD OF 'octavolaw12.SheetSheets'. -/
def sheetSheetsUptoCard : Claim7 := { stood := { row := sheetSheetsUptoRow, standIns := [], harness := (true, "0c8e1e1daa64a09c5af80fb3260cf5d3fd6d2444d9c270209e8fa862cad925e7"), looks := true }, kinds := [], alts := [], laidByText := true, laidKinds := [.data, .pinned], laidTests := true, laidLooks := .later }
def SheetSheetsUptoCardSaid : Prop := Claim7.holds Tryz.pinned (.plain (OpenSpec.upto sheetSheetsSpec)) sheetSheetsUptoCard

/-- THE SECOND FORM's CARD OF 'octavolaw10.FormulaPrints'. -/
def formulaPrintsUptoCard : Claim7 := { stood := { row := formulaPrintsUptoRow, standIns := [], harness := (true, "0c8e1e1daa64a09c5af80fb3260cf5d3fd6d2444d9c270209e8fa862cad925e7"), looks := true }, kinds := [], alts := [], laidByText := true, laidKinds := [.data, .pinned], laidTests := true, laidLooks := .later }
def FormulaPrintsUptoCardSaid : Prop := Claim7.holds Tryz.pinned (.plain (OpenSpec.upto formulaPrintsSpec)) formulaPrintsUptoCard

/-- THE SECOND FORM's CARD OF 'octavolaw10.FormulaBack'. -/
def formulaBackUptoCard : Claim7 := { stood := { row := formulaBackUptoRow, standIns := [], harness := (true, "0c8e1e1daa64a09c5af80fb3260cf5d3fd6d2444d9c270209e8fa862cad925e7"), looks := true }, kinds := [], alts := [], laidByText := true, laidKinds := [.data, .pinned], laidTests := true, laidLooks := .later }
def FormulaBackUptoCardSaid : Prop := Claim7.holds Tryz.pinned (.plain (OpenSpec.upto formulaBackSpec)) formulaBackUptoCard

/-- THE SECOND FORM's CARD OF 'octavolaw10.FormulaSizes'. -/
def formulaSizesUptoCard : Claim7 := { stood := { row := formulaSizesUptoRow, standIns := [], harness := (true, "0c8e1e1daa64a09c5af80fb3260cf5d3fd6d2444d9c270209e8fa862cad925e7"), looks := true }, kinds := [], alts := [], laidByText := true, laidKinds := [.data, .pinned], laidTests := true, laidLooks := .later }
def FormulaSizesUptoCardSaid : Prop := Claim7.holds Tryz.pinned (.plain (OpenSpec.upto formulaSizesSpec)) formulaSizesUptoCard

/-- THE SECOND FORM's CARD OF 'octavolaw12.SheetRight'. -/
def sheetRightUptoCard : Claim7 := { stood := { row := sheetRightUptoRow, standIns := [], harness := (true, "0c8e1e1daa64a09c5af80fb3260cf5d3fd6d2444d9c270209e8fa862cad925e7"), looks := true }, kinds := [], alts := [], laidByText := true, laidKinds := [.data, .pinned], laidTests := true, laidLooks := .later }
def SheetRightUptoCardSaid : Prop := Claim7.holds Tryz.pinned (.plain (OpenSpec.upto sheetRightSpec)) sheetRightUptoCard

/-- THE SECOND FORM's CARD OF 'octavolaw10.FormulaParses'. -/
def formulaParsesUptoCard : Claim7 := { stood := { row := formulaParsesUptoRow, standIns := [], harness := (true, "0c8e1e1daa64a09c5af80fb3260cf5d3fd6d2444d9c270209e8fa862cad925e7"), looks := true }, kinds := [], alts := [], laidByText := true, laidKinds := [.data, .pinned], laidTests := true, laidLooks := .later }
def FormulaParsesUptoCardSaid : Prop := Claim7.holds Tryz.pinned (.plain (OpenSpec.upto formulaParsesSpec)) formulaParsesUptoCard

/-- THE SECOND FORM's CARD OF 'octavolaw10.FormulaCompares'. -/
def formulaComparesUptoCard : Claim7 := { stood := { row := formulaComparesUptoRow, standIns := [], harness := (true, "0c8e1e1daa64a09c5af80fb3260cf5d3fd6d2444d9c270209e8fa862cad925e7"), looks := true }, kinds := [], alts := [], laidByText := true, laidKinds := [.data, .pinned], laidTests := true, laidLooks := .later }
def FormulaComparesUptoCardSaid : Prop := Claim7.holds Tryz.pinned (.plain (OpenSpec.upto formulaComparesSpec)) formulaComparesUptoCard

/-- THE SECOND FORM's CARD OF 'octavolaw14.RewriteTexts'. -/
def rewriteTextsUptoCard : Claim7 := { stood := { row := rewriteTextsUptoRow, standIns := [], harness := (true, "0c8e1e1daa64a09c5af80fb3260cf5d3fd6d2444d9c270209e8fa862cad925e7"), looks := true }, kinds := [], alts := [], laidByText := true, laidKinds := [.data, .pinned], laidTests := true, laidLooks := .later }
def RewriteTextsUptoCardSaid : Prop := Claim7.holds Tryz.pinned (.plain (OpenSpec.upto rewriteTextsSpec)) rewriteTextsUptoCard

/-- THE SECOND FORM's CARD OF 'octavolaw14.RewriteBack'. -/
def rewriteBackUptoCard : Claim7 := { stood := { row := rewriteBackUptoRow, standIns := [], harness := (true, "0c8e1e1daa64a09c5af80fb3260cf5d3fd6d2444d9c270209e8fa862cad925e7"), looks := true }, kinds := [], alts := [], laidByText := true, laidKinds := [.data, .pinned], laidTests := true, laidLooks := .later }
def RewriteBackUptoCardSaid : Prop := Claim7.holds Tryz.pinned (.plain (OpenSpec.upto rewriteBackSpec)) rewriteBackUptoCard

/-- THE SECOND FORM's CARD OF 'octavolaw14.RewriteNodes'. -/
def rewriteNodesUptoCard : Claim7 := { stood := { row := rewriteNodesUptoRow, standIns := [], harness := (true, "0c8e1e1daa64a09c5af80fb3260cf5d3fd6d2444d9c270209e8fa862cad925e7"), looks := true }, kinds := [], alts := [], laidByText := true, laidKinds := [.data, .pinned], laidTests := true, laidLooks := .later }
def RewriteNodesUptoCardSaid : Prop := Claim7.holds Tryz.pinned (.plain (OpenSpec.upto rewriteNodesSpec)) rewriteNodesUptoCard

/-- THE SECOND FORM's CARD OF 'octavolaw14.RewritePlaces'. -/
def rewritePlacesUptoCard : Claim7 := { stood := { row := rewritePlacesUptoRow, standIns := [], harness := (true, "0c8e1e1daa64a09c5af80fb3260cf5d3fd6d2444d9c270209e8fa862cad925e7"), looks := true }, kinds := [], alts := [], laidByText := true, laidKinds := [.data, .pinned], laidTests := true, laidLooks := .later }
def RewritePlacesUptoCardSaid : Prop := Claim7.holds Tryz.pinned (.plain (OpenSpec.upto rewritePlacesSpec)) rewritePlacesUptoCard
end Rows
end Go.Proofs.YtjihhflffkoffaaGreatDoor
