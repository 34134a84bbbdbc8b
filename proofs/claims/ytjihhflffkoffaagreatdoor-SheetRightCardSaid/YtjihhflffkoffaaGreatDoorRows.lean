/-
  NARROWER THAN 'FOR EVERY INPUT', by the rows' own cells (each row's printed sentence says how): TokenLexes: laid · NamesCmps: laid · NamesScopes: laid · NamesGrow: laid · SheetSheets: laid · FormulaPrints: loops, laid · FormulaBack: loops, laid · FormulaSizes: loops, laid · SheetRight: laid · FormulaParses: laid · FormulaCompares: loops, laid · RewriteTexts: laid · RewriteBack: loops, laid · RewriteNodes: loops, laid · RewritePlaces: laid.
  DERIVED. THE GIVEN ROWS OF THIS SEAT. 15 by the template 'for every input the law returns true; each argument reads behind the call as it read before'; 0 by the template 'total and deterministic' (their statements: YtjihhflffkoffaaGreatDoorTotals.lean).
  GIVEN WITH THE SEED: the statements are not yours to turn. If you find one false, say at which input.
  Laid BY PROGRAM, IN A SANDBOX (cutbox-rows.mjs): the forced cells as the released guide's own fill.sh prints them over the translation cc332f1c777cac42… (all of the seat's roots in one cut). By AI agents, Wed Nov 11 2026. No macro, syntax, notation, axiom, sorry.
-/
import Derived.Test.YtjihhflffkoffaaGreatDoorChecked
import GoSem.PinnedTables
import GoSem.Claim
import GoSem.ClaimJoined
import GoSem.ClaimMapViews
import Derived.JoinedTies
import Derived.KernelRfl
namespace Go.Proofs.YtjihhflffkoffaaGreatDoor
/- THE CELL 'sum', in the pinned program and in every row, IS THE sha256 OF THE DUMP (.gsa) THAT YtjihhflffkoffaaGreatDoorProg.lean LOADS. Nothing in Lean hashes anything: it is a label: what it is worth is what the hold of that sum in a sandbox is worth. -/
noncomputable def Tryz.pinned : Pinned := { name := "ytjihhflffkoffaagreatdoor", sum := "cc332f1c777cac422e3f48747adfc08ddb01503a2409deecb96dc6fd0bb213a7", checked := Tryz.checked }
namespace Rows
def none {H : Type} : Left H := { results := [], args := [] }

/- WHAT THE LISTED PACKAGE-LEVEL VARIABLES READ AS WHEN THE CALL BEGINS. Each datum BY PROGRAM (the guide's laid-datum.mjs) off the statement by which the dump's own 'gosem.cut.vars' lays the variable. In a bare row this is a premise. The card (YtjihhflffkoffaaGreatDoorCards.lean) ties it to the program's text. -/
def laid_unicode_utf8_acceptRanges {H : Type} : DataW H := .agg [.agg [.lit (.int .u8 128), .lit (.int .u8 191)], .agg [.lit (.int .u8 160), .lit (.int .u8 191)], .agg [.lit (.int .u8 128), .lit (.int .u8 159)], .agg [.lit (.int .u8 144), .lit (.int .u8 191)], .agg [.lit (.int .u8 128), .lit (.int .u8 143)], .agg [.lit (.int .u8 0), .lit (.int .u8 0)], .agg [.lit (.int .u8 0), .lit (.int .u8 0)], .agg [.lit (.int .u8 0), .lit (.int .u8 0)], .agg [.lit (.int .u8 0), .lit (.int .u8 0)], .agg [.lit (.int .u8 0), .lit (.int .u8 0)], .agg [.lit (.int .u8 0), .lit (.int .u8 0)], .agg [.lit (.int .u8 0), .lit (.int .u8 0)], .agg [.lit (.int .u8 0), .lit (.int .u8 0)], .agg [.lit (.int .u8 0), .lit (.int .u8 0)], .agg [.lit (.int .u8 0), .lit (.int .u8 0)], .agg [.lit (.int .u8 0), .lit (.int .u8 0)]]
/-- One of Go's own tables, pinned by name: the form's constant. -/
def laid_unicode_utf8_first : DataW Unit := Go.Pinned.utf8First

/-- 'octavolaw09.TokenLexes': WHATEVER THE INPUT: true; the input reads as it did. -/
def tokenLexesSpec : ChangeSpec := { name := "tokenLexes", fn := fun _ => fun
  | [d] => { results := [.lit (.bool true)], args := [d] }
  | _ => none }
def tokenLexesRow : OpenClaim := { program := "ytjihhflffkoffaagreatdoor", sum := "cc332f1c777cac422e3f48747adfc08ddb01503a2409deecb96dc6fd0bb213a7", func := "octavo/octavolaw09.TokenLexes", spec := "tokenLexes", inPlace := ["internal/bytealg.IndexByteString", "internal/bytealg.IndexString", "internal/abi.NoEscape", "internal/bytealg.CountString", "internal/bytealg.MakeNoZero"], unfollowed := true, recurses := true, named := ["unicode/utf8.first", "unicode/utf8.acceptRanges", "internal/bytealg.MaxLen"], apart := false, laid := [("unicode/utf8.acceptRanges", laid_unicode_utf8_acceptRanges), ("unicode/utf8.first", laid_unicode_utf8_first)] }
def TokenLexesSaid : Prop := tokenLexesRow.holds Tryz.pinned (OpenSpec.ofChange tokenLexesSpec)

/-- ITS FALSE NEIGHBOUR: 'it returns false'. Refute it at one input. -/
def tokenLexesWrong : ChangeSpec := { name := "tokenLexes", fn := fun _ => fun
  | [d] => { results := [.lit (.bool false)], args := [d] }
  | _ => none }
def TokenLexesWrongFalsely : Prop := tokenLexesRow.holds Tryz.pinned (OpenSpec.ofChange tokenLexesWrong)

/-- 'octavolaw11.NamesCmps': WHATEVER THE INPUT: true; the input reads as it did. -/
def namesCmpsSpec : ChangeSpec := { name := "namesCmps", fn := fun _ => fun
  | [d1, d2] => { results := [.lit (.bool true)], args := [d1, d2] }
  | _ => none }
def namesCmpsRow : OpenClaim := { program := "ytjihhflffkoffaagreatdoor", sum := "cc332f1c777cac422e3f48747adfc08ddb01503a2409deecb96dc6fd0bb213a7", func := "octavo/octavolaw11.NamesCmps", spec := "namesCmps", inPlace := ["internal/bytealg.abigen_runtime_cmpstring", "internal/bytealg.IndexByteString", "internal/bytealg.IndexString", "internal/abi.NoEscape", "slices.overlaps[octavo/api.Name]"], unfollowed := true, recurses := true, named := ["unicode/utf8.first", "unicode/utf8.acceptRanges", "internal/bytealg.MaxLen"], apart := false, laid := [("unicode/utf8.acceptRanges", laid_unicode_utf8_acceptRanges), ("unicode/utf8.first", laid_unicode_utf8_first)] }
def NamesCmpsSaid : Prop := namesCmpsRow.holds Tryz.pinned (OpenSpec.ofChange namesCmpsSpec)

/-- ITS FALSE NEIGHBOUR: 'it returns false'. Refute it at one input. -/
def namesCmpsWrong : ChangeSpec := { name := "namesCmps", fn := fun _ => fun
  | [d1, d2] => { results := [.lit (.bool false)], args := [d1, d2] }
  | _ => none }
def NamesCmpsWrongFalsely : Prop := namesCmpsRow.holds Tryz.pinned (OpenSpec.ofChange namesCmpsWrong)

/-- 'octavolaw11.NamesScopes': WHATEVER THE INPUT: true; the input reads as it did. -/
def namesScopesSpec : ChangeSpec := { name := "namesScopes", fn := fun _ => fun
  | [d1, d2, d3] => { results := [.lit (.bool true)], args := [d1, d2, d3] }
  | _ => none }
def namesScopesRow : OpenClaim := { program := "ytjihhflffkoffaagreatdoor", sum := "cc332f1c777cac422e3f48747adfc08ddb01503a2409deecb96dc6fd0bb213a7", func := "octavo/octavolaw11.NamesScopes", spec := "namesScopes", inPlace := ["internal/bytealg.IndexByteString", "internal/bytealg.IndexString", "internal/abi.NoEscape", "internal/bytealg.abigen_runtime_cmpstring", "slices.overlaps[octavo/api.Name]"], unfollowed := true, recurses := true, named := ["unicode/utf8.first", "unicode/utf8.acceptRanges", "internal/bytealg.MaxLen"], apart := false, laid := [("unicode/utf8.acceptRanges", laid_unicode_utf8_acceptRanges), ("unicode/utf8.first", laid_unicode_utf8_first)] }
def NamesScopesSaid : Prop := namesScopesRow.holds Tryz.pinned (OpenSpec.ofChange namesScopesSpec)

/-- ITS FALSE NEIGHBOUR: 'it returns false'. Refute it at one input. -/
def namesScopesWrong : ChangeSpec := { name := "namesScopes", fn := fun _ => fun
  | [d1, d2, d3] => { results := [.lit (.bool false)], args := [d1, d2, d3] }
  | _ => none }
def NamesScopesWrongFalsely : Prop := namesScopesRow.holds Tryz.pinned (OpenSpec.ofChange namesScopesWrong)

/-- 'octavolaw11.NamesGrow': WHATEVER THE INPUT: true; the input reads as it did. -/
def namesGrowSpec : ChangeSpec := { name := "namesGrow", fn := fun _ => fun
  | [d] => { results := [.lit (.bool true)], args := [d] }
  | _ => none }
def namesGrowRow : OpenClaim := { program := "ytjihhflffkoffaagreatdoor", sum := "cc332f1c777cac422e3f48747adfc08ddb01503a2409deecb96dc6fd0bb213a7", func := "octavo/octavolaw11.NamesGrow", spec := "namesGrow", inPlace := ["internal/bytealg.IndexByteString", "internal/bytealg.IndexString", "internal/abi.NoEscape", "internal/bytealg.abigen_runtime_cmpstring", "slices.overlaps[octavo/api.Name]"], unfollowed := true, recurses := true, named := ["unicode/utf8.first", "unicode/utf8.acceptRanges", "internal/bytealg.MaxLen"], apart := false, laid := [("unicode/utf8.acceptRanges", laid_unicode_utf8_acceptRanges), ("unicode/utf8.first", laid_unicode_utf8_first)] }
def NamesGrowSaid : Prop := namesGrowRow.holds Tryz.pinned (OpenSpec.ofChange namesGrowSpec)

/-- ITS FALSE NEIGHBOUR: 'it returns false'. Refute it at one input. -/
def namesGrowWrong : ChangeSpec := { name := "namesGrow", fn := fun _ => fun
  | [d] => { results := [.lit (.bool false)], args := [d] }
  | _ => none }
def NamesGrowWrongFalsely : Prop := namesGrowRow.holds Tryz.pinned (OpenSpec.ofChange namesGrowWrong)

/-- 'octavolaw12.SheetSheets': WHATEVER THE INPUT: true; the input reads as it did. -/
def sheetSheetsSpec : ChangeSpec := { name := "sheetSheets", fn := fun _ => fun
  | [d1, d2] => { results := [.lit (.bool true)], args := [d1, d2] }
  | _ => none }
def sheetSheetsRow : OpenClaim := { program := "ytjihhflffkoffaagreatdoor", sum := "cc332f1c777cac422e3f48747adfc08ddb01503a2409deecb96dc6fd0bb213a7", func := "octavo/octavolaw12.SheetSheets", spec := "sheetSheets", inPlace := ["internal/bytealg.IndexByteString", "internal/bytealg.IndexString", "internal/abi.NoEscape", "slices.overlaps[octavo/api.Cell]", "slices.overlaps[octavo/api.Sheet]"], unfollowed := true, recurses := true, named := ["unicode/utf8.first", "unicode/utf8.acceptRanges", "internal/bytealg.MaxLen"], apart := false, laid := [("unicode/utf8.acceptRanges", laid_unicode_utf8_acceptRanges), ("unicode/utf8.first", laid_unicode_utf8_first)] }
def SheetSheetsSaid : Prop := sheetSheetsRow.holds Tryz.pinned (OpenSpec.ofChange sheetSheetsSpec)

/-- ITS FALSE NEIGHBOUR: 'it returns false'. Refute it at one input. -/
def sheetSheetsWrong : ChangeSpec := { name := "sheetSheets", fn := fun _ => fun
  | [d1, d2] => { results := [.lit (.bool false)], args := [d1, d2] }
  | _ => none }
def SheetSheetsWrongFalsely : Prop := sheetSheetsRow.holds Tryz.pinned (OpenSpec.ofChange sheetSheetsWrong)

/-- 'octavolaw10.FormulaPrints': WHATEVER THE INPUT: true; the input reads as it did. -/
def formulaPrintsSpec : ChangeSpec := { name := "formulaPrints", fn := fun _ => fun
  | [d] => { results := [.lit (.bool true)], args := [d] }
  | _ => none }
def formulaPrintsRow : OpenClaim := { program := "ytjihhflffkoffaagreatdoor", sum := "cc332f1c777cac422e3f48747adfc08ddb01503a2409deecb96dc6fd0bb213a7", func := "octavo/octavolaw10.FormulaPrints", spec := "formulaPrints", inPlace := ["internal/bytealg.IndexByteString", "internal/bytealg.IndexString", "internal/abi.NoEscape", "internal/bytealg.CountString", "internal/bytealg.MakeNoZero"], unfollowed := true, recurses := true, named := ["unicode/utf8.first", "unicode/utf8.acceptRanges", "internal/bytealg.MaxLen"], loops := true, apart := false, laid := [("unicode/utf8.acceptRanges", laid_unicode_utf8_acceptRanges), ("unicode/utf8.first", laid_unicode_utf8_first)] }
def FormulaPrintsSaid : Prop := formulaPrintsRow.holds Tryz.pinned (OpenSpec.ofChange formulaPrintsSpec)

/-- ITS FALSE NEIGHBOUR: 'it returns false'. Refute it at one input. -/
def formulaPrintsWrong : ChangeSpec := { name := "formulaPrints", fn := fun _ => fun
  | [d] => { results := [.lit (.bool false)], args := [d] }
  | _ => none }
def FormulaPrintsWrongFalsely : Prop := formulaPrintsRow.holds Tryz.pinned (OpenSpec.ofChange formulaPrintsWrong)

/-- 'octavolaw10.FormulaBack': WHATEVER THE INPUT: true; the input reads as it did. -/
def formulaBackSpec : ChangeSpec := { name := "formulaBack", fn := fun _ => fun
  | [d1, d2] => { results := [.lit (.bool true)], args := [d1, d2] }
  | _ => none }
def formulaBackRow : OpenClaim := { program := "ytjihhflffkoffaagreatdoor", sum := "cc332f1c777cac422e3f48747adfc08ddb01503a2409deecb96dc6fd0bb213a7", func := "octavo/octavolaw10.FormulaBack", spec := "formulaBack", inPlace := ["internal/bytealg.IndexByteString", "internal/bytealg.IndexString", "internal/abi.NoEscape", "internal/bytealg.CountString", "internal/bytealg.MakeNoZero"], unfollowed := true, recurses := true, named := ["unicode/utf8.first", "unicode/utf8.acceptRanges", "internal/bytealg.MaxLen"], loops := true, apart := false, laid := [("unicode/utf8.acceptRanges", laid_unicode_utf8_acceptRanges), ("unicode/utf8.first", laid_unicode_utf8_first)] }
def FormulaBackSaid : Prop := formulaBackRow.holds Tryz.pinned (OpenSpec.ofChange formulaBackSpec)

/-- ITS FALSE NEIGHBOUR: 'it returns false'. Refute it at one input. -/
def formulaBackWrong : ChangeSpec := { name := "formulaBack", fn := fun _ => fun
  | [d1, d2] => { results := [.lit (.bool false)], args := [d1, d2] }
  | _ => none }
def FormulaBackWrongFalsely : Prop := formulaBackRow.holds Tryz.pinned (OpenSpec.ofChange formulaBackWrong)

/-- 'octavolaw10.FormulaSizes': WHATEVER THE INPUT: true; the input reads as it did. -/
def formulaSizesSpec : ChangeSpec := { name := "formulaSizes", fn := fun _ => fun
  | [d] => { results := [.lit (.bool true)], args := [d] }
  | _ => none }
def formulaSizesRow : OpenClaim := { program := "ytjihhflffkoffaagreatdoor", sum := "cc332f1c777cac422e3f48747adfc08ddb01503a2409deecb96dc6fd0bb213a7", func := "octavo/octavolaw10.FormulaSizes", spec := "formulaSizes", inPlace := ["internal/bytealg.IndexByteString", "internal/bytealg.IndexString", "internal/abi.NoEscape", "internal/bytealg.CountString", "internal/bytealg.MakeNoZero"], unfollowed := true, recurses := true, named := ["unicode/utf8.first", "unicode/utf8.acceptRanges", "internal/bytealg.MaxLen"], loops := true, apart := false, laid := [("unicode/utf8.acceptRanges", laid_unicode_utf8_acceptRanges), ("unicode/utf8.first", laid_unicode_utf8_first)] }
def FormulaSizesSaid : Prop := formulaSizesRow.holds Tryz.pinned (OpenSpec.ofChange formulaSizesSpec)

/-- ITS FALSE NEIGHBOUR: 'it returns false'. Refute it at one input. -/
def formulaSizesWrong : ChangeSpec := { name := "formulaSizes", fn := fun _ => fun
  | [d] => { results := [.lit (.bool false)], args := [d] }
  | _ => none }
def FormulaSizesWrongFalsely : Prop := formulaSizesRow.holds Tryz.pinned (OpenSpec.ofChange formulaSizesWrong)

/-- 'octavolaw12.SheetRight': WHATEVER THE INPUT: true; the input reads as it did. -/
def sheetRightSpec : ChangeSpec := { name := "sheetRight", fn := fun _ => fun
  | [d1, d2] => { results := [.lit (.bool true)], args := [d1, d2] }
  | _ => none }
def sheetRightRow : OpenClaim := { program := "ytjihhflffkoffaagreatdoor", sum := "cc332f1c777cac422e3f48747adfc08ddb01503a2409deecb96dc6fd0bb213a7", func := "octavo/octavolaw12.SheetRight", spec := "sheetRight", inPlace := ["internal/bytealg.IndexByteString", "internal/bytealg.IndexString", "internal/abi.NoEscape", "slices.overlaps[octavo/api.Cell]", "slices.overlaps[octavo/api.Sheet]"], unfollowed := true, recurses := true, named := ["unicode/utf8.first", "unicode/utf8.acceptRanges", "internal/bytealg.MaxLen"], apart := false, laid := [("unicode/utf8.acceptRanges", laid_unicode_utf8_acceptRanges), ("unicode/utf8.first", laid_unicode_utf8_first)] }
def SheetRightSaid : Prop := sheetRightRow.holds Tryz.pinned (OpenSpec.ofChange sheetRightSpec)

/-- ITS FALSE NEIGHBOUR: 'it returns false'. Refute it at one input. -/
def sheetRightWrong : ChangeSpec := { name := "sheetRight", fn := fun _ => fun
  | [d1, d2] => { results := [.lit (.bool false)], args := [d1, d2] }
  | _ => none }
def SheetRightWrongFalsely : Prop := sheetRightRow.holds Tryz.pinned (OpenSpec.ofChange sheetRightWrong)

/-- 'octavolaw10.FormulaParses': WHATEVER THE INPUT: true; the input reads as it did. -/
def formulaParsesSpec : ChangeSpec := { name := "formulaParses", fn := fun _ => fun
  | [d] => { results := [.lit (.bool true)], args := [d] }
  | _ => none }
def formulaParsesRow : OpenClaim := { program := "ytjihhflffkoffaagreatdoor", sum := "cc332f1c777cac422e3f48747adfc08ddb01503a2409deecb96dc6fd0bb213a7", func := "octavo/octavolaw10.FormulaParses", spec := "formulaParses", inPlace := ["internal/bytealg.IndexByteString", "internal/bytealg.IndexString", "internal/abi.NoEscape", "internal/bytealg.CountString", "internal/bytealg.MakeNoZero"], unfollowed := true, recurses := true, named := ["unicode/utf8.first", "unicode/utf8.acceptRanges", "internal/bytealg.MaxLen"], apart := false, laid := [("unicode/utf8.acceptRanges", laid_unicode_utf8_acceptRanges), ("unicode/utf8.first", laid_unicode_utf8_first)] }
def FormulaParsesSaid : Prop := formulaParsesRow.holds Tryz.pinned (OpenSpec.ofChange formulaParsesSpec)

/-- ITS FALSE NEIGHBOUR: 'it returns false'. Refute it at one input. -/
def formulaParsesWrong : ChangeSpec := { name := "formulaParses", fn := fun _ => fun
  | [d] => { results := [.lit (.bool false)], args := [d] }
  | _ => none }
def FormulaParsesWrongFalsely : Prop := formulaParsesRow.holds Tryz.pinned (OpenSpec.ofChange formulaParsesWrong)

/-- 'octavolaw10.FormulaCompares': WHATEVER THE INPUT: true; the input reads as it did. -/
def formulaComparesSpec : ChangeSpec := { name := "formulaCompares", fn := fun _ => fun
  | [d1, d2] => { results := [.lit (.bool true)], args := [d1, d2] }
  | _ => none }
def formulaComparesRow : OpenClaim := { program := "ytjihhflffkoffaagreatdoor", sum := "cc332f1c777cac422e3f48747adfc08ddb01503a2409deecb96dc6fd0bb213a7", func := "octavo/octavolaw10.FormulaCompares", spec := "formulaCompares", inPlace := ["internal/bytealg.IndexByteString", "internal/bytealg.IndexString", "internal/abi.NoEscape", "internal/bytealg.CountString", "internal/bytealg.MakeNoZero"], unfollowed := true, recurses := true, named := ["unicode/utf8.first", "unicode/utf8.acceptRanges", "internal/bytealg.MaxLen"], loops := true, apart := false, laid := [("unicode/utf8.acceptRanges", laid_unicode_utf8_acceptRanges), ("unicode/utf8.first", laid_unicode_utf8_first)] }
def FormulaComparesSaid : Prop := formulaComparesRow.holds Tryz.pinned (OpenSpec.ofChange formulaComparesSpec)

/-- ITS FALSE NEIGHBOUR: 'it returns false'. Refute it at one input. -/
def formulaComparesWrong : ChangeSpec := { name := "formulaCompares", fn := fun _ => fun
  | [d1, d2] => { results := [.lit (.bool false)], args := [d1, d2] }
  | _ => none }
def FormulaComparesWrongFalsely : Prop := formulaComparesRow.holds Tryz.pinned (OpenSpec.ofChange formulaComparesWrong)

/-- 'octavolaw14.RewriteTexts': WHATEVER THE INPUT: true; the input reads as it did. -/
def rewriteTextsSpec : ChangeSpec := { name := "rewriteTexts", fn := fun _ => fun
  | [d1, d2, d3] => { results := [.lit (.bool true)], args := [d1, d2, d3] }
  | _ => none }
def rewriteTextsRow : OpenClaim := { program := "ytjihhflffkoffaagreatdoor", sum := "cc332f1c777cac422e3f48747adfc08ddb01503a2409deecb96dc6fd0bb213a7", func := "octavo/octavolaw14.RewriteTexts", spec := "rewriteTexts", inPlace := ["internal/bytealg.IndexByteString", "internal/bytealg.IndexString", "internal/abi.NoEscape", "internal/bytealg.CountString", "internal/bytealg.MakeNoZero"], unfollowed := true, recurses := true, named := ["unicode/utf8.first", "unicode/utf8.acceptRanges", "internal/bytealg.MaxLen"], apart := false, laid := [("unicode/utf8.acceptRanges", laid_unicode_utf8_acceptRanges), ("unicode/utf8.first", laid_unicode_utf8_first)] }
def RewriteTextsSaid : Prop := rewriteTextsRow.holds Tryz.pinned (OpenSpec.ofChange rewriteTextsSpec)

/-- ITS FALSE NEIGHBOUR: 'it returns false'. Refute it at one input. -/
def rewriteTextsWrong : ChangeSpec := { name := "rewriteTexts", fn := fun _ => fun
  | [d1, d2, d3] => { results := [.lit (.bool false)], args := [d1, d2, d3] }
  | _ => none }
def RewriteTextsWrongFalsely : Prop := rewriteTextsRow.holds Tryz.pinned (OpenSpec.ofChange rewriteTextsWrong)

/-- 'octavolaw14.RewriteBack': WHATEVER THE INPUT: true; the input reads as it did. -/
def rewriteBackSpec : ChangeSpec := { name := "rewriteBack", fn := fun _ => fun
  | [d1, d2, d3] => { results := [.lit (.bool true)], args := [d1, d2, d3] }
  | _ => none }
def rewriteBackRow : OpenClaim := { program := "ytjihhflffkoffaagreatdoor", sum := "cc332f1c777cac422e3f48747adfc08ddb01503a2409deecb96dc6fd0bb213a7", func := "octavo/octavolaw14.RewriteBack", spec := "rewriteBack", inPlace := ["internal/bytealg.IndexByteString", "internal/bytealg.IndexString", "internal/abi.NoEscape", "internal/bytealg.CountString", "internal/bytealg.MakeNoZero"], unfollowed := true, recurses := true, named := ["unicode/utf8.first", "unicode/utf8.acceptRanges", "internal/bytealg.MaxLen"], loops := true, apart := false, laid := [("unicode/utf8.acceptRanges", laid_unicode_utf8_acceptRanges), ("unicode/utf8.first", laid_unicode_utf8_first)] }
def RewriteBackSaid : Prop := rewriteBackRow.holds Tryz.pinned (OpenSpec.ofChange rewriteBackSpec)

/-- ITS FALSE NEIGHBOUR: 'it returns false'. Refute it at one input. -/
def rewriteBackWrong : ChangeSpec := { name := "rewriteBack", fn := fun _ => fun
  | [d1, d2, d3] => { results := [.lit (.bool false)], args := [d1, d2, d3] }
  | _ => none }
def RewriteBackWrongFalsely : Prop := rewriteBackRow.holds Tryz.pinned (OpenSpec.ofChange rewriteBackWrong)

/-- 'octavolaw14.RewriteNodes': WHATEVER THE INPUT: true; the input reads as it did. -/
def rewriteNodesSpec : ChangeSpec := { name := "rewriteNodes", fn := fun _ => fun
  | [d1, d2, d3] => { results := [.lit (.bool true)], args := [d1, d2, d3] }
  | _ => none }
def rewriteNodesRow : OpenClaim := { program := "ytjihhflffkoffaagreatdoor", sum := "cc332f1c777cac422e3f48747adfc08ddb01503a2409deecb96dc6fd0bb213a7", func := "octavo/octavolaw14.RewriteNodes", spec := "rewriteNodes", inPlace := ["internal/bytealg.IndexByteString", "internal/bytealg.IndexString", "internal/abi.NoEscape", "internal/bytealg.CountString", "internal/bytealg.MakeNoZero"], unfollowed := true, recurses := true, named := ["unicode/utf8.first", "unicode/utf8.acceptRanges", "internal/bytealg.MaxLen"], loops := true, apart := false, laid := [("unicode/utf8.acceptRanges", laid_unicode_utf8_acceptRanges), ("unicode/utf8.first", laid_unicode_utf8_first)] }
def RewriteNodesSaid : Prop := rewriteNodesRow.holds Tryz.pinned (OpenSpec.ofChange rewriteNodesSpec)

/-- ITS FALSE NEIGHBOUR: 'it returns false'. Refute it at one input. -/
def rewriteNodesWrong : ChangeSpec := { name := "rewriteNodes", fn := fun _ => fun
  | [d1, d2, d3] => { results := [.lit (.bool false)], args := [d1, d2, d3] }
  | _ => none }
def RewriteNodesWrongFalsely : Prop := rewriteNodesRow.holds Tryz.pinned (OpenSpec.ofChange rewriteNodesWrong)

/-- 'octavolaw14.RewritePlaces': WHATEVER THE INPUT: true; the input reads as it did. -/
def rewritePlacesSpec : ChangeSpec := { name := "rewritePlaces", fn := fun _ => fun
  | [d1, d2, d3] => { results := [.lit (.bool true)], args := [d1, d2, d3] }
  | _ => none }
def rewritePlacesRow : OpenClaim := { program := "ytjihhflffkoffaagreatdoor", sum := "cc332f1c777cac422e3f48747adfc08ddb01503a2409deecb96dc6fd0bb213a7", func := "octavo/octavolaw14.RewritePlaces", spec := "rewritePlaces", inPlace := ["internal/bytealg.IndexByteString", "internal/bytealg.IndexString", "internal/abi.NoEscape", "internal/bytealg.CountString", "internal/bytealg.MakeNoZero"], unfollowed := true, recurses := true, named := ["unicode/utf8.first", "unicode/utf8.acceptRanges", "internal/bytealg.MaxLen"], apart := false, laid := [("unicode/utf8.acceptRanges", laid_unicode_utf8_acceptRanges), ("unicode/utf8.first", laid_unicode_utf8_first)] }
def RewritePlacesSaid : Prop := rewritePlacesRow.holds Tryz.pinned (OpenSpec.ofChange rewritePlacesSpec)

/-- ITS FALSE NEIGHBOUR: 'it returns false'. Refute it at one input. -/
def rewritePlacesWrong : ChangeSpec := { name := "rewritePlaces", fn := fun _ => fun
  | [d1, d2, d3] => { results := [.lit (.bool false)], args := [d1, d2, d3] }
  | _ => none }
def RewritePlacesWrongFalsely : Prop := rewritePlacesRow.holds Tryz.pinned (OpenSpec.ofChange rewritePlacesWrong)

/- THE SECOND FORM. 'bulk': how many values and letters a reading holds, each counted each time it is reached (what is shared counts as often as it is met; a slice's spare places count too). A statement '..UptoSaid' is the law's where the arguments, and the package variables that the reading takes, are together of bulk at most 1048576: NARROWER than '..Said'. Prove '..Said' where nothing that the law and all that it calls make is longer than what came in: it says more and counts as full. Else prove '..UptoSaid'. A law counts once. -/
mutual
def uptoBulk {H : Type} : DataW H → Nat
  | .lit (.string bytes) => bytes.length + 1
  | .lit _ => 1
  | .nil => 1
  | .ptr d => uptoBulk d + 1
  | .slice elems spare => uptoBulkAll elems + uptoBulkAll spare + 1
  | .agg parts => uptoBulkAll parts + 1
  | .iface _ d => uptoBulk d + 1
  | .map entries => uptoBulkEntries entries + 1
  | .held _ => 1
def uptoBulkAll {H : Type} : List (DataW H) → Nat
  | [] => 0
  | d :: r => uptoBulk d + uptoBulkAll r
def uptoBulkEntries {H : Type} : List (Lit × DataW H) → Nat
  | [] => 0
  | x :: r => uptoBulkEntry x + uptoBulkEntries r
def uptoBulkEntry {H : Type} : Lit × DataW H → Nat
  | (.string bytes, d) => bytes.length + uptoBulk d + 1
  | (_, d) => uptoBulk d + 1
 end
def uptoSmall : (H : Type) → List (DataW H) → Bool := fun _ ds => decide (uptoBulkAll ds ≤ 1048576)
def OpenSpec.upto (s : _root_.Go.ChangeSpec) : _root_.Go.OpenSpec := { _root_.Go.OpenSpec.ofChange s with cond := some uptoSmall }

/-- 'octavolaw09.TokenLexes', WHERE WHAT IT READS IS OF BULK AT MOST 1048576: true; the input reads as it did. -/
def tokenLexesUptoRow : OpenClaim := { program := "ytjihhflffkoffaagreatdoor", sum := "cc332f1c777cac422e3f48747adfc08ddb01503a2409deecb96dc6fd0bb213a7", func := "octavo/octavolaw09.TokenLexes", spec := "tokenLexes", inPlace := ["internal/bytealg.IndexByteString", "internal/bytealg.IndexString", "internal/abi.NoEscape", "internal/bytealg.CountString", "internal/bytealg.MakeNoZero"], unfollowed := true, recurses := true, named := ["unicode/utf8.first", "unicode/utf8.acceptRanges", "internal/bytealg.MaxLen"], apart := false, laid := [("unicode/utf8.acceptRanges", laid_unicode_utf8_acceptRanges), ("unicode/utf8.first", laid_unicode_utf8_first)], narrowed := true }
def TokenLexesUptoSaid : Prop := tokenLexesUptoRow.holds Tryz.pinned (OpenSpec.upto tokenLexesSpec)

/-- 'octavolaw11.NamesCmps', WHERE WHAT IT READS IS OF BULK AT MOST 1048576: true; the input reads as it did. -/
def namesCmpsUptoRow : OpenClaim := { program := "ytjihhflffkoffaagreatdoor", sum := "cc332f1c777cac422e3f48747adfc08ddb01503a2409deecb96dc6fd0bb213a7", func := "octavo/octavolaw11.NamesCmps", spec := "namesCmps", inPlace := ["internal/bytealg.abigen_runtime_cmpstring", "internal/bytealg.IndexByteString", "internal/bytealg.IndexString", "internal/abi.NoEscape", "slices.overlaps[octavo/api.Name]"], unfollowed := true, recurses := true, named := ["unicode/utf8.first", "unicode/utf8.acceptRanges", "internal/bytealg.MaxLen"], apart := false, laid := [("unicode/utf8.acceptRanges", laid_unicode_utf8_acceptRanges), ("unicode/utf8.first", laid_unicode_utf8_first)], narrowed := true }
def NamesCmpsUptoSaid : Prop := namesCmpsUptoRow.holds Tryz.pinned (OpenSpec.upto namesCmpsSpec)

/-- 'octavolaw11.NamesScopes', WHERE WHAT IT READS IS OF BULK AT MOST 1048576: true; the input reads as it did. -/
def namesScopesUptoRow : OpenClaim := { program := "ytjihhflffkoffaagreatdoor", sum := "cc332f1c777cac422e3f48747adfc08ddb01503a2409deecb96dc6fd0bb213a7", func := "octavo/octavolaw11.NamesScopes", spec := "namesScopes", inPlace := ["internal/bytealg.IndexByteString", "internal/bytealg.IndexString", "internal/abi.NoEscape", "internal/bytealg.abigen_runtime_cmpstring", "slices.overlaps[octavo/api.Name]"], unfollowed := true, recurses := true, named := ["unicode/utf8.first", "unicode/utf8.acceptRanges", "internal/bytealg.MaxLen"], apart := false, laid := [("unicode/utf8.acceptRanges", laid_unicode_utf8_acceptRanges), ("unicode/utf8.first", laid_unicode_utf8_first)], narrowed := true }
def NamesScopesUptoSaid : Prop := namesScopesUptoRow.holds Tryz.pinned (OpenSpec.upto namesScopesSpec)

/-- 'octavolaw11.NamesGrow', WHERE WHAT IT READS IS OF BULK AT MOST 1048576: true; the input reads as it did. -/
def namesGrowUptoRow : OpenClaim := { program := "ytjihhflffkoffaagreatdoor", sum := "cc332f1c777cac422e3f48747adfc08ddb01503a2409deecb96dc6fd0bb213a7", func := "octavo/octavolaw11.NamesGrow", spec := "namesGrow", inPlace := ["internal/bytealg.IndexByteString", "internal/bytealg.IndexString", "internal/abi.NoEscape", "internal/bytealg.abigen_runtime_cmpstring", "slices.overlaps[octavo/api.Name]"], unfollowed := true, recurses := true, named := ["unicode/utf8.first", "unicode/utf8.acceptRanges", "internal/bytealg.MaxLen"], apart := false, laid := [("unicode/utf8.acceptRanges", laid_unicode_utf8_acceptRanges), ("unicode/utf8.first", laid_unicode_utf8_first)], narrowed := true }
def NamesGrowUptoSaid : Prop := namesGrowUptoRow.holds Tryz.pinned (OpenSpec.upto namesGrowSpec)

/-- 'octavolaw12.SheetSheets', WHERE WHAT IT READS IS OF BULK AT MOST 1048576: true; the input reads as it did. -/
def sheetSheetsUptoRow : OpenClaim := { program := "ytjihhflffkoffaagreatdoor", sum := "cc332f1c777cac422e3f48747adfc08ddb01503a2409deecb96dc6fd0bb213a7", func := "octavo/octavolaw12.SheetSheets", spec := "sheetSheets", inPlace := ["internal/bytealg.IndexByteString", "internal/bytealg.IndexString", "internal/abi.NoEscape", "slices.overlaps[octavo/api.Cell]", "slices.overlaps[octavo/api.Sheet]"], unfollowed := true, recurses := true, named := ["unicode/utf8.first", "unicode/utf8.acceptRanges", "internal/bytealg.MaxLen"], apart := false, laid := [("unicode/utf8.acceptRanges", laid_unicode_utf8_acceptRanges), ("unicode/utf8.first", laid_unicode_utf8_first)], narrowed := true }
def SheetSheetsUptoSaid : Prop := sheetSheetsUptoRow.holds Tryz.pinned (OpenSpec.upto sheetSheetsSpec)

/-- 'octavolaw10.FormulaPrints', WHERE WHAT IT READS IS OF BULK AT MOST 1048576: true; the input reads as it did. -/
def formulaPrintsUptoRow : OpenClaim := { program := "ytjihhflffkoffaagreatdoor", sum := "cc332f1c777cac422e3f48747adfc08ddb01503a2409deecb96dc6fd0bb213a7", func := "octavo/octavolaw10.FormulaPrints", spec := "formulaPrints", inPlace := ["internal/bytealg.IndexByteString", "internal/bytealg.IndexString", "internal/abi.NoEscape", "internal/bytealg.CountString", "internal/bytealg.MakeNoZero"], unfollowed := true, recurses := true, named := ["unicode/utf8.first", "unicode/utf8.acceptRanges", "internal/bytealg.MaxLen"], loops := true, apart := false, laid := [("unicode/utf8.acceptRanges", laid_unicode_utf8_acceptRanges), ("unicode/utf8.first", laid_unicode_utf8_first)], narrowed := true }
def FormulaPrintsUptoSaid : Prop := formulaPrintsUptoRow.holds Tryz.pinned (OpenSpec.upto formulaPrintsSpec)

/-- 'octavolaw10.FormulaBack', WHERE WHAT IT READS IS OF BULK AT MOST 1048576: true; the input reads as it did. -/
def formulaBackUptoRow : OpenClaim := { program := "ytjihhflffkoffaagreatdoor", sum := "cc332f1c777cac422e3f48747adfc08ddb01503a2409deecb96dc6fd0bb213a7", func := "octavo/octavolaw10.FormulaBack", spec := "formulaBack", inPlace := ["internal/bytealg.IndexByteString", "internal/bytealg.IndexString", "internal/abi.NoEscape", "internal/bytealg.CountString", "internal/bytealg.MakeNoZero"], unfollowed := true, recurses := true, named := ["unicode/utf8.first", "unicode/utf8.acceptRanges", "internal/bytealg.MaxLen"], loops := true, apart := false, laid := [("unicode/utf8.acceptRanges", laid_unicode_utf8_acceptRanges), ("unicode/utf8.first", laid_unicode_utf8_first)], narrowed := true }
def FormulaBackUptoSaid : Prop := formulaBackUptoRow.holds Tryz.pinned (OpenSpec.upto formulaBackSpec)

/-- 'octavolaw10.FormulaSizes', WHERE WHAT IT READS IS OF BULK AT MOST 1048576: true; the input reads as it did. -/
def formulaSizesUptoRow : OpenClaim := { program := "ytjihhflffkoffaagreatdoor", sum := "cc332f1c777cac422e3f48747adfc08ddb01503a2409deecb96dc6fd0bb213a7", func := "octavo/octavolaw10.FormulaSizes", spec := "formulaSizes", inPlace := ["internal/bytealg.IndexByteString", "internal/bytealg.IndexString", "internal/abi.NoEscape", "internal/bytealg.CountString", "internal/bytealg.MakeNoZero"], unfollowed := true, recurses := true, named := ["unicode/utf8.first", "unicode/utf8.acceptRanges", "internal/bytealg.MaxLen"], loops := true, apart := false, laid := [("unicode/utf8.acceptRanges", laid_unicode_utf8_acceptRanges), ("unicode/utf8.first", laid_unicode_utf8_first)], narrowed := true }
def FormulaSizesUptoSaid : Prop := formulaSizesUptoRow.holds Tryz.pinned (OpenSpec.upto formulaSizesSpec)

/-- 'octavolaw12.SheetRight', WHERE WHAT IT READS IS OF BULK AT MOST 1048576: true; the input reads as it did. -/
def sheetRightUptoRow : OpenClaim := { program := "ytjihhflffkoffaagreatdoor", sum := "cc332f1c777cac422e3f48747adfc08ddb01503a2409deecb96dc6fd0bb213a7", func := "octavo/octavolaw12.SheetRight", spec := "sheetRight", inPlace := ["internal/bytealg.IndexByteString", "internal/bytealg.IndexString", "internal/abi.NoEscape", "slices.overlaps[octavo/api.Cell]", "slices.overlaps[octavo/api.Sheet]"], unfollowed := true, recurses := true, named := ["unicode/utf8.first", "unicode/utf8.acceptRanges", "internal/bytealg.MaxLen"], apart := false, laid := [("unicode/utf8.acceptRanges", laid_unicode_utf8_acceptRanges), ("unicode/utf8.first", laid_unicode_utf8_first)], narrowed := true }
def SheetRightUptoSaid : Prop := sheetRightUptoRow.holds Tryz.pinned (OpenSpec.upto sheetRightSpec)

/-- 'octavolaw10.FormulaParses', WHERE WHAT IT READS IS OF BULK AT MOST 1048576: true; the input reads as it did. -/
def formulaParsesUptoRow : OpenClaim := { program := "ytjihhflffkoffaagreatdoor", sum := "cc332f1c777cac422e3f48747adfc08ddb01503a2409deecb96dc6fd0bb213a7", func := "octavo/octavolaw10.FormulaParses", spec := "formulaParses", inPlace := ["internal/bytealg.IndexByteString", "internal/bytealg.IndexString", "internal/abi.NoEscape", "internal/bytealg.CountString", "internal/bytealg.MakeNoZero"], unfollowed := true, recurses := true, named := ["unicode/utf8.first", "unicode/utf8.acceptRanges", "internal/bytealg.MaxLen"], apart := false, laid := [("unicode/utf8.acceptRanges", laid_unicode_utf8_acceptRanges), ("unicode/utf8.first", laid_unicode_utf8_first)], narrowed := true }
def FormulaParsesUptoSaid : Prop := formulaParsesUptoRow.holds Tryz.pinned (OpenSpec.upto formulaParsesSpec)

/-- 'octavolaw10.FormulaCompares', WHERE WHAT IT READS IS OF BULK AT MOST 1048576: true; the input reads as it did. -/
def formulaComparesUptoRow : OpenClaim := { program := "ytjihhflffkoffaagreatdoor", sum := "cc332f1c777cac422e3f48747adfc08ddb01503a2409deecb96dc6fd0bb213a7", func := "octavo/octavolaw10.FormulaCompares", spec := "formulaCompares", inPlace := ["internal/bytealg.IndexByteString", "internal/bytealg.IndexString", "internal/abi.NoEscape", "internal/bytealg.CountString", "internal/bytealg.MakeNoZero"], unfollowed := true, recurses := true, named := ["unicode/utf8.first", "unicode/utf8.acceptRanges", "internal/bytealg.MaxLen"], loops := true, apart := false, laid := [("unicode/utf8.acceptRanges", laid_unicode_utf8_acceptRanges), ("unicode/utf8.first", laid_unicode_utf8_first)], narrowed := true }
def FormulaComparesUptoSaid : Prop := formulaComparesUptoRow.holds Tryz.pinned (OpenSpec.upto formulaComparesSpec)

/-- 'octavolaw14.RewriteTexts', WHERE WHAT IT READS IS OF BULK AT MOST 1048576: true; the input reads as it did. -/
def rewriteTextsUptoRow : OpenClaim := { program := "ytjihhflffkoffaagreatdoor", sum := "cc332f1c777cac422e3f48747adfc08ddb01503a2409deecb96dc6fd0bb213a7", func := "octavo/octavolaw14.RewriteTexts", spec := "rewriteTexts", inPlace := ["internal/bytealg.IndexByteString", "internal/bytealg.IndexString", "internal/abi.NoEscape", "internal/bytealg.CountString", "internal/bytealg.MakeNoZero"], unfollowed := true, recurses := true, named := ["unicode/utf8.first", "unicode/utf8.acceptRanges", "internal/bytealg.MaxLen"], apart := false, laid := [("unicode/utf8.acceptRanges", laid_unicode_utf8_acceptRanges), ("unicode/utf8.first", laid_unicode_utf8_first)], narrowed := true }
def RewriteTextsUptoSaid : Prop := rewriteTextsUptoRow.holds Tryz.pinned (OpenSpec.upto rewriteTextsSpec)

/-- 'octavolaw14.RewriteBack', WHERE WHAT IT READS IS OF BULK AT MOST 1048576: true; the input reads as it did. -/
def rewriteBackUptoRow : OpenClaim := { program := "ytjihhflffkoffaagreatdoor", sum := "cc332f1c777cac422e3f48747adfc08ddb01503a2409deecb96dc6fd0bb213a7", func := "octavo/octavolaw14.RewriteBack", spec := "rewriteBack", inPlace := ["internal/bytealg.IndexByteString", "internal/bytealg.IndexString", "internal/abi.NoEscape", "internal/bytealg.CountString", "internal/bytealg.MakeNoZero"], unfollowed := true, recurses := true, named := ["unicode/utf8.first", "unicode/utf8.acceptRanges", "internal/bytealg.MaxLen"], loops := true, apart := false, laid := [("unicode/utf8.acceptRanges", laid_unicode_utf8_acceptRanges), ("unicode/utf8.first", laid_unicode_utf8_first)], narrowed := true }
def RewriteBackUptoSaid : Prop := rewriteBackUptoRow.holds Tryz.pinned (OpenSpec.upto rewriteBackSpec)

/-- 'octavolaw14.RewriteNodes', WHERE WHAT IT READS IS OF BULK AT MOST 1048576: true; the input reads as it did. -/
def rewriteNodesUptoRow : OpenClaim := { program := "ytjihhflffkoffaagreatdoor", sum := "cc332f1c777cac422e3f48747adfc08ddb01503a2409deecb96dc6fd0bb213a7", func := "octavo/octavolaw14.RewriteNodes", spec := "rewriteNodes", inPlace := ["internal/bytealg.IndexByteString", "internal/bytealg.IndexString", "internal/abi.NoEscape", "internal/bytealg.CountString", "internal/bytealg.MakeNoZero"], unfollowed := true, recurses := true, named := ["unicode/utf8.first", "unicode/utf8.acceptRanges", "internal/bytealg.MaxLen"], loops := true, apart := false, laid := [("unicode/utf8.acceptRanges", laid_unicode_utf8_acceptRanges), ("unicode/utf8.first", laid_unicode_utf8_first)], narrowed := true }
def RewriteNodesUptoSaid : Prop := rewriteNodesUptoRow.holds Tryz.pinned (OpenSpec.upto rewriteNodesSpec)

/-- 'octavolaw14.RewritePlaces', WHERE WHAT IT READS IS OF BULK AT MOST 1048576: true; the input reads as it did. -/
def rewritePlacesUptoRow : OpenClaim := { program := "ytjihhflffkoffaagreatdoor", sum := "cc332f1c777cac422e3f48747adfc08ddb01503a2409deecb96dc6fd0bb213a7", func := "octavo/octavolaw14.RewritePlaces", spec := "rewritePlaces", inPlace := ["internal/bytealg.IndexByteString", "internal/bytealg.IndexString", "internal/abi.NoEscape", "internal/bytealg.CountString", "internal/bytealg.MakeNoZero"], unfollowed := true, recurses := true, named := ["unicode/utf8.first", "unicode/utf8.acceptRanges", "internal/bytealg.MaxLen"], apart := false, laid := [("unicode/utf8.acceptRanges", laid_unicode_utf8_acceptRanges), ("unicode/utf8.first", laid_unicode_utf8_first)], narrowed := true }
def RewritePlacesUptoSaid : Prop := rewritePlacesUptoRow.holds Tryz.pinned (OpenSpec.upto rewritePlacesSpec)

end Rows
end Go.Proofs.YtjihhflffkoffaaGreatDoor
