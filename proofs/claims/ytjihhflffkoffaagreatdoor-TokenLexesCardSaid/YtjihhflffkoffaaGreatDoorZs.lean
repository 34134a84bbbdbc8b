/- The program's structs as plain records, and as the machine's values. -/
import Derived.Test.YtjihhflffkoffaaGreatDoorZ0
import Derived.Test.YtjihhflffkoffaaGreatDoorLe
import Derived.KernelRfl
set_option linter.unusedSimpArgs false
set_option linter.unusedVariables false
set_option linter.unusedSectionVars false
set_option linter.unnecessarySimpa false
namespace Go.Proofs.YtjihhflffkoffaaGreatDoor.Z
open Go Go.Lm
theorem covA : coversAll Tryz.prog = true := by kernel_rfl
structure NameC where
  scope : List UInt8
  name : List UInt8
  text : List UInt8
def NameC.cs (x : NameC) : List LV := [.str x.scope, .str x.name, .str x.text]
def NameC.lv (x : NameC) : LV := .agg x.cs
structure ValC where
  kind : Int
  n : Int
  s : List UInt8
def ValC.cs (x : ValC) : List LV := [.int .i64 x.kind, .int .i64 x.n, .str x.s]
def ValC.lv (x : ValC) : LV := .agg x.cs
structure RefC where
  book : List UInt8
  sheet : List UInt8
  row : Int
  col : Int
  fixRow : Bool
  fixCol : Bool
def RefC.cs (x : RefC) : List LV := [.str x.book, .str x.sheet, .int .i64 x.row, .int .i64 x.col, .bool x.fixRow, .bool x.fixCol]
def RefC.lv (x : RefC) : LV := .agg x.cs
structure NdC where
  kind : Int
  s : List UInt8
  valueKind : Int
  valueN : Int
  valueS : List UInt8
  refBook : List UInt8
  refSheet : List UInt8
  refRow : Int
  refCol : Int
  refFixRow : Bool
  refFixCol : Bool
  toBook : List UInt8
  toSheet : List UInt8
  toRow : Int
  toCol : Int
  toFixRow : Bool
  toFixCol : Bool
  argsA : Option LAddr
  argsL : Nat
  argsQ : Cap
def NdC.cs (x : NdC) : List LV := [.int .i64 x.kind, .str x.s, .int .i64 x.valueKind, .int .i64 x.valueN, .str x.valueS, .str x.refBook, .str x.refSheet, .int .i64 x.refRow, .int .i64 x.refCol, .bool x.refFixRow, .bool x.refFixCol, .str x.toBook, .str x.toSheet, .int .i64 x.toRow, .int .i64 x.toCol, .bool x.toFixRow, .bool x.toFixCol, .slice x.argsA x.argsL x.argsQ]
def NdC.lv (x : NdC) : LV := .agg x.cs
structure PlaceC where
  book : List UInt8
  sheet : List UInt8
  row : Int
  col : Int
def PlaceC.cs (x : PlaceC) : List LV := [.str x.book, .str x.sheet, .int .i64 x.row, .int .i64 x.col]
def PlaceC.lv (x : PlaceC) : LV := .agg x.cs
structure ShiftC where
  at_ : Int
  n : Int
  most : Int
def ShiftC.cs (x : ShiftC) : List LV := [.int .i64 x.at_, .int .i64 x.n, .int .i64 x.most]
def ShiftC.lv (x : ShiftC) : LV := .agg x.cs
structure ChangeC where
  book : List UInt8
  sheet : List UInt8
  drop : Bool
  cols : Bool
  shiftAt : Int
  shiftN : Int
  shiftMost : Int
def ChangeC.cs (x : ChangeC) : List LV := [.str x.book, .str x.sheet, .bool x.drop, .bool x.cols, .int .i64 x.shiftAt, .int .i64 x.shiftN, .int .i64 x.shiftMost]
def ChangeC.lv (x : ChangeC) : LV := .agg x.cs
structure TokC where
  kind : Int
  n : Int
  s : List UInt8
  refBook : List UInt8
  refSheet : List UInt8
  refRow : Int
  refCol : Int
  refFixRow : Bool
  refFixCol : Bool
def TokC.cs (x : TokC) : List LV := [.int .i64 x.kind, .int .i64 x.n, .str x.s, .str x.refBook, .str x.refSheet, .int .i64 x.refRow, .int .i64 x.refCol, .bool x.refFixRow, .bool x.refFixCol]
def TokC.lv (x : TokC) : LV := .agg x.cs
structure CellC where
  row : Int
  col : Int
  text : List UInt8
def CellC.cs (x : CellC) : List LV := [.int .i64 x.row, .int .i64 x.col, .str x.text]
def CellC.lv (x : CellC) : LV := .agg x.cs
structure SheetC where
  name : List UInt8
  cellsA : Option LAddr
  cellsL : Nat
  cellsQ : Cap
def SheetC.cs (x : SheetC) : List LV := [.str x.name, .slice x.cellsA x.cellsL x.cellsQ]
def SheetC.lv (x : SheetC) : LV := .agg x.cs
structure BookC where
  sheetsA : Option LAddr
  sheetsL : Nat
  sheetsQ : Cap
  namesA : Option LAddr
  namesL : Nat
  namesQ : Cap
  linksA : Option LAddr
  linksL : Nat
  linksQ : Cap
def BookC.cs (x : BookC) : List LV := [.slice x.sheetsA x.sheetsL x.sheetsQ, .slice x.namesA x.namesL x.namesQ, .slice x.linksA x.linksL x.linksQ]
def BookC.lv (x : BookC) : LV := .agg x.cs
structure LinkC where
  book : List UInt8
  sheet : List UInt8
  row : Int
  col : Int
  valueKind : Int
  valueN : Int
  valueS : List UInt8
def LinkC.cs (x : LinkC) : List LV := [.str x.book, .str x.sheet, .int .i64 x.row, .int .i64 x.col, .int .i64 x.valueKind, .int .i64 x.valueN, .str x.valueS]
def LinkC.lv (x : LinkC) : LV := .agg x.cs
structure PutC where
  sheet : List UInt8
  row : Int
  col : Int
  text : List UInt8
  at_ : Int
  cellsA : Option LAddr
  cellsL : Nat
  cellsQ : Cap
def PutC.cs (x : PutC) : List LV := [.str x.sheet, .int .i64 x.row, .int .i64 x.col, .str x.text, .int .i64 x.at_, .slice x.cellsA x.cellsL x.cellsQ]
def PutC.lv (x : PutC) : LV := .agg x.cs
structure TurnC where
  homeBook : List UInt8
  homeSheet : List UInt8
  homeRow : Int
  homeCol : Int
  cBook : List UInt8
  cSheet : List UInt8
  cDrop : Bool
  cCols : Bool
  cShiftAt : Int
  cShiftN : Int
  cShiftMost : Int
  line : LV
  lines : LV
  any : Bool
def TurnC.cs (x : TurnC) : List LV := [.str x.homeBook, .str x.homeSheet, .int .i64 x.homeRow, .int .i64 x.homeCol, .str x.cBook, .str x.cSheet, .bool x.cDrop, .bool x.cCols, .int .i64 x.cShiftAt, .int .i64 x.cShiftN, .int .i64 x.cShiftMost, x.line, x.lines, .bool x.any]
def TurnC.lv (x : TurnC) : LV := .agg x.cs
abbrev zTc : List LV := [(.int .i64 (0 : Int)), (.int .i64 (0 : Int)), (.str []), (.str []), (.str []), (.int .i64 (0 : Int)), (.int .i64 (0 : Int)), (.bool false), (.bool false)]
abbrev zRc : List LV := [(.str []), (.str []), (.int .i64 (0 : Int)), (.int .i64 (0 : Int)), (.bool false), (.bool false)]
end Go.Proofs.YtjihhflffkoffaaGreatDoor.Z
