import Derived.Test.YtoldachfmeghkaaGreatVmFor
import Derived.Test.YtoldachfmeghkaaGreatProg
set_option linter.unusedVariables false
set_option linter.unusedSimpArgs false
set_option maxRecDepth 100000
noncomputable section
namespace Go.Vm
open Go.Proofs
abbrev Rows := List (List V)
def unds : Nat → List T → List T
  | 0, l => l
  | n + 1, l => .undef :: unds n l
structure Sbox_reader where
  boxes : Int
abbrev Sbox_reader.sh : List CK := [.int .i64]
abbrev Sbox_reader.ts : List T := [.int .i64]
def Sbox_reader.row (s : Sbox_reader) : List V := [.int .i64 s.boxes]
def Sbox_reader.v (s : Sbox_reader) : V := .agg s.row
def Sbox_reader.of (w : List V) : Sbox_reader := ⟨V.toInt (List.getD w 0 V.undef)⟩
instance : Inhabited Sbox_reader := ⟨Sbox_reader.of []⟩
structure SColor where
  Space : Int
  Roles : Rows
  Palette : Rows
abbrev SColor.sh : List CK := [.int .i64, .sl Sbox_reader.sh, .sl [.sl Sbox_reader.sh]]
abbrev SColor.ts : List T := [.int .i64, .data Sbox_reader.sh, .data [.sl Sbox_reader.sh]]
def SColor.row (s : SColor) : List V := [.int .i64 s.Space, .data Sbox_reader.sh s.Roles, .data [.sl Sbox_reader.sh] s.Palette]
def SColor.v (s : SColor) : V := .agg s.row
def SColor.of (w : List V) : SColor := ⟨V.toInt (List.getD w 0 V.undef), V.toRows (List.getD w 1 V.undef), V.toRows (List.getD w 2 V.undef)⟩
instance : Inhabited SColor := ⟨SColor.of []⟩
structure SMeta where
  Key : ByteArray
  Value : ByteArray
abbrev SMeta.sh : List CK := [.str, .str]
abbrev SMeta.ts : List T := [.str, .str]
def SMeta.row (s : SMeta) : List V := [.str s.Key, .str s.Value]
def SMeta.v (s : SMeta) : V := .agg s.row
def SMeta.of (w : List V) : SMeta := ⟨V.toStr (List.getD w 0 V.undef), V.toStr (List.getD w 1 V.undef)⟩
instance : Inhabited SMeta := ⟨SMeta.of []⟩
structure SFile where
  Color : SColor
  Meta : Rows
  Stream : Rows
abbrev SFile.sh : List CK := [.int .i64, .sl Sbox_reader.sh, .sl [.sl Sbox_reader.sh], .sl SMeta.sh, .sl [.int .u8]]
abbrev SFile.ts : List T := [.int .i64, .data Sbox_reader.sh, .data [.sl Sbox_reader.sh], .data SMeta.sh, .data [.int .u8]]
def SFile.row (s : SFile) : List V := [.int .i64 s.Color.Space, .data Sbox_reader.sh s.Color.Roles, .data [.sl Sbox_reader.sh] s.Color.Palette, .data SMeta.sh s.Meta, .data [.int .u8] s.Stream]
def SFile.v (s : SFile) : V := .agg s.row
def SFile.of (w : List V) : SFile := ⟨⟨V.toInt (List.getD w 0 V.undef), V.toRows (List.getD w 1 V.undef), V.toRows (List.getD w 2 V.undef)⟩, V.toRows (List.getD w 3 V.undef), V.toRows (List.getD w 4 V.undef)⟩
instance : Inhabited SFile := ⟨SFile.of []⟩
structure SRect where
  X0 : Int
  Y0 : Int
  X1 : Int
  Y1 : Int
abbrev SRect.sh : List CK := [.int .i64, .int .i64, .int .i64, .int .i64]
abbrev SRect.ts : List T := [.int .i64, .int .i64, .int .i64, .int .i64]
def SRect.row (s : SRect) : List V := [.int .i64 s.X0, .int .i64 s.Y0, .int .i64 s.X1, .int .i64 s.Y1]
def SRect.v (s : SRect) : V := .agg s.row
def SRect.of (w : List V) : SRect := ⟨V.toInt (List.getD w 0 V.undef), V.toInt (List.getD w 1 V.undef), V.toInt (List.getD w 2 V.undef), V.toInt (List.getD w 3 V.undef)⟩
instance : Inhabited SRect := ⟨SRect.of []⟩
structure SComponent where
  Depth : Int
  Signed : Bool
  DX : Int
  DY : Int
abbrev SComponent.sh : List CK := [.int .i64, .bool, .int .i64, .int .i64]
abbrev SComponent.ts : List T := [.int .i64, .bool, .int .i64, .int .i64]
def SComponent.row (s : SComponent) : List V := [.int .i64 s.Depth, .bool s.Signed, .int .i64 s.DX, .int .i64 s.DY]
def SComponent.v (s : SComponent) : V := .agg s.row
def SComponent.of (w : List V) : SComponent := ⟨V.toInt (List.getD w 0 V.undef), V.toBool (List.getD w 1 V.undef), V.toInt (List.getD w 2 V.undef), V.toInt (List.getD w 3 V.undef)⟩
instance : Inhabited SComponent := ⟨SComponent.of []⟩
structure SHeader where
  Area : SRect
  TileW : Int
  TileH : Int
  Components : Rows
abbrev SHeader.sh : List CK := [.int .i64, .int .i64, .int .i64, .int .i64, .int .i64, .int .i64, .sl SComponent.sh]
abbrev SHeader.ts : List T := [.int .i64, .int .i64, .int .i64, .int .i64, .int .i64, .int .i64, .data SComponent.sh]
def SHeader.row (s : SHeader) : List V := [.int .i64 s.Area.X0, .int .i64 s.Area.Y0, .int .i64 s.Area.X1, .int .i64 s.Area.Y1, .int .i64 s.TileW, .int .i64 s.TileH, .data SComponent.sh s.Components]
def SHeader.v (s : SHeader) : V := .agg s.row
def SHeader.of (w : List V) : SHeader := ⟨⟨V.toInt (List.getD w 0 V.undef), V.toInt (List.getD w 1 V.undef), V.toInt (List.getD w 2 V.undef), V.toInt (List.getD w 3 V.undef)⟩, V.toInt (List.getD w 4 V.undef), V.toInt (List.getD w 5 V.undef), V.toRows (List.getD w 6 V.undef)⟩
instance : Inhabited SHeader := ⟨SHeader.of []⟩
structure SSegment where
  Code : Int
  Payload : Rows
abbrev SSegment.sh : List CK := [.int .i64, .sl [.int .u8]]
abbrev SSegment.ts : List T := [.int .i64, .data [.int .u8]]
def SSegment.row (s : SSegment) : List V := [.int .i64 s.Code, .data [.int .u8] s.Payload]
def SSegment.v (s : SSegment) : V := .agg s.row
def SSegment.of (w : List V) : SSegment := ⟨V.toInt (List.getD w 0 V.undef), V.toRows (List.getD w 1 V.undef)⟩
instance : Inhabited SSegment := ⟨SSegment.of []⟩
structure SMode where
  Bypass : Bool
  Restart : Bool
  Reset : Bool
  Causal : Bool
  Symbols : Bool
abbrev SMode.sh : List CK := [.bool, .bool, .bool, .bool, .bool]
abbrev SMode.ts : List T := [.bool, .bool, .bool, .bool, .bool]
def SMode.row (s : SMode) : List V := [.bool s.Bypass, .bool s.Restart, .bool s.Reset, .bool s.Causal, .bool s.Symbols]
def SMode.v (s : SMode) : V := .agg s.row
def SMode.of (w : List V) : SMode := ⟨V.toBool (List.getD w 0 V.undef), V.toBool (List.getD w 1 V.undef), V.toBool (List.getD w 2 V.undef), V.toBool (List.getD w 3 V.undef), V.toBool (List.getD w 4 V.undef)⟩
instance : Inhabited SMode := ⟨SMode.of []⟩
structure SPoint where
  X : Int
  Y : Int
abbrev SPoint.sh : List CK := [.int .i64, .int .i64]
abbrev SPoint.ts : List T := [.int .i64, .int .i64]
def SPoint.row (s : SPoint) : List V := [.int .i64 s.X, .int .i64 s.Y]
def SPoint.v (s : SPoint) : V := .agg s.row
def SPoint.of (w : List V) : SPoint := ⟨V.toInt (List.getD w 0 V.undef), V.toInt (List.getD w 1 V.undef)⟩
instance : Inhabited SPoint := ⟨SPoint.of []⟩
structure SParams where
  Kernel : Int
  Levels : Int
  Color : Int
  BlockX : Int
  BlockY : Int
  Precincts : Rows
  Order : Int
  Layers : Int
  Mode : SMode
  Divide : Bool
  Sync : Bool
  Fence : Bool
  Steps : Rows
  Dead : Int
  Shift : Int
abbrev SParams.sh : List CK := [.int .i64, .int .i64, .int .i64, .int .i64, .int .i64, .sl SPoint.sh, .int .i64, .int .i64, .bool, .bool, .bool, .bool, .bool, .bool, .bool, .bool, .sl Sbox_reader.sh, .int .i64, .int .i64]
abbrev SParams.ts : List T := [.int .i64, .int .i64, .int .i64, .int .i64, .int .i64, .data SPoint.sh, .int .i64, .int .i64, .bool, .bool, .bool, .bool, .bool, .bool, .bool, .bool, .data Sbox_reader.sh, .int .i64, .int .i64]
def SParams.row (s : SParams) : List V := [.int .i64 s.Kernel, .int .i64 s.Levels, .int .i64 s.Color, .int .i64 s.BlockX, .int .i64 s.BlockY, .data SPoint.sh s.Precincts, .int .i64 s.Order, .int .i64 s.Layers, .bool s.Mode.Bypass, .bool s.Mode.Restart, .bool s.Mode.Reset, .bool s.Mode.Causal, .bool s.Mode.Symbols, .bool s.Divide, .bool s.Sync, .bool s.Fence, .data Sbox_reader.sh s.Steps, .int .i64 s.Dead, .int .i64 s.Shift]
def SParams.v (s : SParams) : V := .agg s.row
def SParams.of (w : List V) : SParams := ⟨V.toInt (List.getD w 0 V.undef), V.toInt (List.getD w 1 V.undef), V.toInt (List.getD w 2 V.undef), V.toInt (List.getD w 3 V.undef), V.toInt (List.getD w 4 V.undef), V.toRows (List.getD w 5 V.undef), V.toInt (List.getD w 6 V.undef), V.toInt (List.getD w 7 V.undef), ⟨V.toBool (List.getD w 8 V.undef), V.toBool (List.getD w 9 V.undef), V.toBool (List.getD w 10 V.undef), V.toBool (List.getD w 11 V.undef), V.toBool (List.getD w 12 V.undef)⟩, V.toBool (List.getD w 13 V.undef), V.toBool (List.getD w 14 V.undef), V.toBool (List.getD w 15 V.undef), V.toRows (List.getD w 16 V.undef), V.toInt (List.getD w 17 V.undef), V.toInt (List.getD w 18 V.undef)⟩
instance : Inhabited SParams := ⟨SParams.of []⟩
structure SA4_Rect where
  e0 : SRect
  e1 : SRect
  e2 : SRect
  e3 : SRect
abbrev SA4_Rect.sh : List CK := [.int .i64, .int .i64, .int .i64, .int .i64, .int .i64, .int .i64, .int .i64, .int .i64, .int .i64, .int .i64, .int .i64, .int .i64, .int .i64, .int .i64, .int .i64, .int .i64]
abbrev SA4_Rect.ts : List T := [.int .i64, .int .i64, .int .i64, .int .i64, .int .i64, .int .i64, .int .i64, .int .i64, .int .i64, .int .i64, .int .i64, .int .i64, .int .i64, .int .i64, .int .i64, .int .i64]
def SA4_Rect.row (s : SA4_Rect) : List V := [.int .i64 s.e0.X0, .int .i64 s.e0.Y0, .int .i64 s.e0.X1, .int .i64 s.e0.Y1, .int .i64 s.e1.X0, .int .i64 s.e1.Y0, .int .i64 s.e1.X1, .int .i64 s.e1.Y1, .int .i64 s.e2.X0, .int .i64 s.e2.Y0, .int .i64 s.e2.X1, .int .i64 s.e2.Y1, .int .i64 s.e3.X0, .int .i64 s.e3.Y0, .int .i64 s.e3.X1, .int .i64 s.e3.Y1]
def SA4_Rect.v (s : SA4_Rect) : V := .agg s.row
def SA4_Rect.of (w : List V) : SA4_Rect := ⟨⟨V.toInt (List.getD w 0 V.undef), V.toInt (List.getD w 1 V.undef), V.toInt (List.getD w 2 V.undef), V.toInt (List.getD w 3 V.undef)⟩, ⟨V.toInt (List.getD w 4 V.undef), V.toInt (List.getD w 5 V.undef), V.toInt (List.getD w 6 V.undef), V.toInt (List.getD w 7 V.undef)⟩, ⟨V.toInt (List.getD w 8 V.undef), V.toInt (List.getD w 9 V.undef), V.toInt (List.getD w 10 V.undef), V.toInt (List.getD w 11 V.undef)⟩, ⟨V.toInt (List.getD w 12 V.undef), V.toInt (List.getD w 13 V.undef), V.toInt (List.getD w 14 V.undef), V.toInt (List.getD w 15 V.undef)⟩⟩
instance : Inhabited SA4_Rect := ⟨SA4_Rect.of []⟩
def u8 : List V → Option Int
  | [.int .u8 n] => some n
  | _ => none
def byB : Rows → List Int → Bool
  | [], [] => true
  | x :: r, m :: l => (u8 x == some m) && byB r l
  | _, _ => false
noncomputable def m_rect_Valid (a0 : SRect) : Bool :=
 let b1 : Bool := (decide ((0 : Int) ≤ a0.X0))
 let b2 : Bool := (bif b1 then (decide (a0.X0 ≤ a0.X1)) else false)
 let b3 : Bool := (decide (a0.X1 ≤ (4096 : Int)))
 let b4 : Bool := (bif b2 then b3 else false)
 let b5 : Bool := (decide ((0 : Int) ≤ a0.Y0))
 let b6 : Bool := (bif b4 then b5 else false)
 let b7 : Bool := (bif b6 then (decide (a0.Y0 ≤ a0.Y1)) else false)
 let b8 : Bool := (decide (a0.Y1 ≤ (4096 : Int)))
 let b9 : Bool := (bif b7 then b8 else false)
 b9
noncomputable def m_rect_Empty (a0 : SRect) : Bool :=
 let b1 : Bool := (bif (decide (a0.X0 ≥ a0.X1)) then true else (decide (a0.Y0 ≥ a0.Y1)))
 b1
def inB (lo hi x : Int) : Bool := !(bif decide (x < lo) then true else decide (x > hi))
noncomputable def m_rect_CeilDiv (a0 a1 : Int) : Int :=
 let b1 : Bool := (decide (a1 < (1 : Int)))
 bif b1 then
 (0 : Int)
 else
 bif (a1 != 0) then
 let x2 : Int := (IntKind.wrap .i64 (Int.tdiv a0 a1))
 bif (a1 != 0) then
 let b3 : Bool := (decide ((Int.tmod a0 a1) > (0 : Int)))
 bif b3 then
 let x4 : Int := (IntKind.wrap .i64 (x2 + (1 : Int)))
 x4
 else
 x2
 else default
 else default
noncomputable def m_rect_Reduce (a0 : SRect) (a1 a2 : Int) : SRect :=
 let c1 : Bool := (m_rect_Valid a0)
 let b2 : Bool := (decide (a1 < (1 : Int)))
 let b3 : Bool := (bif (!c1) then true else b2)
 let b4 : Bool := (decide (a1 > (4096 : Int)))
 let b5 : Bool := (bif b3 then true else b4)
 let b6 : Bool := (decide (a2 < (1 : Int)))
 let b7 : Bool := (bif b5 then true else b6)
 let b8 : Bool := (decide (a2 > (4096 : Int)))
 let b9 : Bool := (bif b7 then true else b8)
 bif b9 then
 (SRect.mk (0 : Int) (0 : Int) (0 : Int) (0 : Int))
 else
 let c10 : Int := (m_rect_CeilDiv a0.X0 a1)
 let c11 : Int := (m_rect_CeilDiv a0.Y0 a2)
 let c12 : Int := (m_rect_CeilDiv a0.X1 a1)
 let c13 : Int := (m_rect_CeilDiv a0.Y1 a2)
 (SRect.mk c10 c11 c12 c13)
noncomputable def m_rect_FloorDiv (a0 a1 : Int) : Int :=
 let b1 : Bool := (decide (a1 < (1 : Int)))
 bif b1 then
 (0 : Int)
 else
 bif (a1 != 0) then
 let x2 : Int := (IntKind.wrap .i64 (Int.tdiv a0 a1))
 bif (a1 != 0) then
 let b3 : Bool := (decide ((Int.tmod a0 a1) < (0 : Int)))
 bif b3 then
 let x4 : Int := (IntKind.wrap .i64 (x2 - (1 : Int)))
 x4
 else
 x2
 else default
 else default
noncomputable def m_rect_Area (a0 : SRect) : Int :=
 let c1 : Bool := (m_rect_Valid a0)
 bif (!c1) then
 (0 : Int)
 else
 let x2 : Int := (IntKind.wrap .i64 (a0.X1 - a0.X0))
 let x3 : Int := (IntKind.wrap .i64 (a0.Y1 - a0.Y0))
 let x4 : Int := (IntKind.wrap .i64 (x2 * x3))
 x4
def compOK (a : SRect) (w : List V) : Bool := inB 1 16 (SComponent.of w).Depth && inB 1 4 (SComponent.of w).DX && inB 1 4 (SComponent.of w).DY && !m_rect_Empty (m_rect_Reduce a (SComponent.of w).DX (SComponent.of w).DY)
def compFits (a : SRect) (w : List V) : Bool := !decide (m_rect_Area (m_rect_Reduce a (SComponent.of w).DX (SComponent.of w).DY) > 1048576)
def nTiles (h : SHeader) : Int := IntKind.wrap .i64 (IntKind.wrap .i64 (m_rect_CeilDiv h.Area.X1 h.TileW - m_rect_FloorDiv h.Area.X0 h.TileW) * IntKind.wrap .i64 (m_rect_CeilDiv h.Area.Y1 h.TileH - m_rect_FloorDiv h.Area.Y0 h.TileH))
def headOK (h : SHeader) : Bool := m_rect_Valid h.Area && !m_rect_Empty h.Area && inB 1 4096 h.TileW && inB 1 4096 h.TileH && inB 1 4 (h.Components.length : Int)
def m_params_Header (h : SHeader) : Int :=
  bif headOK h && h.Components.all (compOK h.Area) then
    (bif decide (nTiles h > 1024) then 5 else bif h.Components.all (compFits h.Area) then 0 else 5)
  else 12
noncomputable def m_rect_Intersect (a0 a1 : SRect) : SRect :=
 let x1 : Int := (bif (decide (a1.X0 > a0.X0)) then a1.X0 else a0.X0)
 let x2 : Int := (bif (decide (a1.Y0 > a0.Y0)) then a1.Y0 else a0.Y0)
 let x3 : Int := (bif (decide (a1.X1 < a0.X1)) then a1.X1 else a0.X1)
 let x4 : Int := (bif (decide (a1.Y1 < a0.Y1)) then a1.Y1 else a0.Y1)
 let c5 : Bool := (m_rect_Empty (SRect.mk x1 x2 x3 x4))
 bif c5 then
 (SRect.mk (0 : Int) (0 : Int) (0 : Int) (0 : Int))
 else
 (SRect.mk x1 x2 x3 x4)
def cellOf (r : SRect) (w h j i : Int) : SRect := m_rect_Intersect r ⟨IntKind.wrap .i64 (i * w), IntKind.wrap .i64 (j * h), IntKind.wrap .i64 (IntKind.wrap .i64 (i + 1) * w), IntKind.wrap .i64 (IntKind.wrap .i64 (j + 1) * h)⟩
def cellsOK (r : SRect) (w h : Int) : Bool := m_rect_Valid r && !m_rect_Empty r && !decide (w < 1) && !decide (h < 1) && !decide (IntKind.wrap .i64 (IntKind.wrap .i64 (m_rect_CeilDiv r.X1 w - m_rect_FloorDiv r.X0 w) * IntKind.wrap .i64 (m_rect_CeilDiv r.Y1 h - m_rect_FloorDiv r.Y0 h)) > 65536)
def cellsL (r : SRect) (w h : Int) : List SRect := bif cellsOK r w h then
    (rngI (m_rect_FloorDiv r.Y0 h) (m_rect_CeilDiv r.Y1 h)).flatMap fun j => (rngI (m_rect_FloorDiv r.X0 w) (m_rect_CeilDiv r.X1 w)).map fun i => cellOf r w h j i
  else []
def m_rect_Cells (r : SRect) (w h : Int) : Rows := (cellsL r w h).map SRect.row
noncomputable def m_layout_Tiles (a0 : SHeader) : Rows :=
 let c1 : Int := (m_params_Header a0)
 bif (c1 != (0 : Int)) then
 []
 else
 let c2 : Rows := (m_rect_Cells a0.Area a0.TileW a0.TileH)
 c2
def stepsOK (l : Rows) : Bool := l.all fun w => inB 1 65536 (V.toInt (List.getD w 0 V.undef))
def precOK (l : Rows) : Bool := (rngI 0 (l.length : Int)).all fun i => inB (bif decide (1 < i) then 1 else i) 12 (SPoint.of (l.getD i.toNat [])).X && inB (bif decide (1 < i) then 1 else i) 12 (SPoint.of (l.getD i.toNat [])).Y
def numB (p : SParams) : Bool := inB 0 5 p.Levels && inB 2 6 p.BlockX && inB 2 6 p.BlockY && inB 1 16 p.Layers && inB 8 32 p.Dead && inB 0 30 p.Shift && ((p.Steps.length : Int) == 3 * p.Levels + 1) && stepsOK p.Steps && (((p.Precincts.length : Int) == 0) || (((p.Precincts.length : Int) == p.Levels + 1) && precOK p.Precincts))
def compEq (a b : SComponent) : Bool := (a.Depth == b.Depth) && ((a.Signed == b.Signed) && ((a.DX == b.DX) && ((a.DY == b.DY) && true)))
def colorB (h : SHeader) (p : SParams) : Bool := (p.Color == 0) || (decide ((h.Components.length : Int) ≥ 3) && compEq (SComponent.of (h.Components.getD 0 [])) (SComponent.of (h.Components.getD 1 [])) && compEq (SComponent.of (h.Components.getD 0 [])) (SComponent.of (h.Components.getD 2 [])))
def m_params_numbers (h : SHeader) (p : SParams) : Bool := numB p && colorB h p
noncomputable def m_pyramid_validLevels (a0 : Int) : Bool :=
 let b1 : Bool := (decide (a0 ≥ (0 : Int)))
 let b2 : Bool := (decide (a0 ≤ (5 : Int)))
 let b3 : Bool := (bif b1 then b2 else false)
 b3
noncomputable def m_pyramid_Indices (a0 a1 : Int) : Rows :=
 let c1 : Bool := (m_pyramid_validLevels a0)
 let b2 : Bool := (decide (a1 < (0 : Int)))
 let b3 : Bool := (bif (!c1) then true else b2)
 let b4 : Bool := (bif b3 then true else (decide (a1 > a0)))
 bif b4 then
 []
 else
 bif (a1 == (0 : Int)) then
 [[(V.int .i64 (0 : Int))]]
 else
 let x5 : Int := (IntKind.wrap .i64 ((3 : Int) * a1))
 let x6 : Int := (IntKind.wrap .i64 (x5 - (2 : Int)))
 let x7 : Int := (IntKind.wrap .i64 ((3 : Int) * a1))
 let x8 : Int := (IntKind.wrap .i64 (x7 - (1 : Int)))
 let x9 : Int := (IntKind.wrap .i64 ((3 : Int) * a1))
 [[(V.int .i64 x6)], [(V.int .i64 x8)], [(V.int .i64 x9)]]
noncomputable def m_params_Precinct (a0 : SParams) (a1 : Int) : SPoint :=
 let b1 : Bool := (decide (a1 < (0 : Int)))
 let b2 : Bool := (decide (a1 > a0.Levels))
 let b3 : Bool := (bif b1 then true else b2)
 bif b3 then
 (SPoint.mk (0 : Int) (0 : Int))
 else
 let x4 : Int := (((List.length a0.Precincts) : Nat) : Int)
 bif (x4 == (0 : Int)) then
 (SPoint.mk (12 : Int) (12 : Int))
 else
 let x5 : Int := (((List.length a0.Precincts) : Nat) : Int)
 bif (decide (a1 ≥ x5)) then
 (SPoint.mk (0 : Int) (0 : Int))
 else
 bif (inR a1 (List.length a0.Precincts)) then
 let w6 : List V := (List.getD a0.Precincts (Int.toNat a1) [])
 let s7 : SPoint := (SPoint.of w6)
 s7
 else default
noncomputable def m_params_cells (a0 : SRect) (a1 a2 : Int) : Int :=
 let c1 : Bool := (m_rect_Empty a0)
 bif c1 then
 (0 : Int)
 else
 bif (decide ((0 : Int) ≤ (IntKind.wrap .u64 a1))) then
 let x2 : Int := (IntKind.wrap .i64 ((1 : Int) * 2 ^ (min (Int.toNat (IntKind.wrap .u64 a1)) 64)))
 bif (decide ((0 : Int) ≤ (IntKind.wrap .u64 a2))) then
 let x3 : Int := (IntKind.wrap .i64 ((1 : Int) * 2 ^ (min (Int.toNat (IntKind.wrap .u64 a2)) 64)))
 let c4 : Int := (m_rect_CeilDiv a0.X1 x2)
 let c5 : Int := (m_rect_FloorDiv a0.X0 x2)
 let x6 : Int := (IntKind.wrap .i64 (c4 - c5))
 let c7 : Int := (m_rect_CeilDiv a0.Y1 x3)
 let c8 : Int := (m_rect_FloorDiv a0.Y0 x3)
 let x9 : Int := (IntKind.wrap .i64 (c7 - c8))
 let x10 : Int := (IntKind.wrap .i64 (x6 * x9))
 x10
 else default
 else default
noncomputable def m_pyramid_Resolution (a0 : SRect) (a1 a2 : Int) : SRect :=
 let c1 : Bool := (m_pyramid_validLevels a1)
 let b2 : Bool := (decide (a2 < (0 : Int)))
 let b3 : Bool := (bif (!c1) then true else b2)
 let b4 : Bool := (bif b3 then true else (decide (a2 > a1)))
 bif b4 then
 (SRect.mk (0 : Int) (0 : Int) (0 : Int) (0 : Int))
 else
 let x5 : Int := (IntKind.wrap .i64 (a1 - a2))
 bif (decide ((0 : Int) ≤ (IntKind.wrap .u64 x5))) then
 let x6 : Int := (IntKind.wrap .i64 ((1 : Int) * 2 ^ (min (Int.toNat (IntKind.wrap .u64 x5)) 64)))
 let c7 : SRect := (m_rect_Reduce a0 x6 x6)
 c7
 else default
noncomputable def m_pyramid_Count (a0 : Int) : Int :=
 let c1 : Bool := (m_pyramid_validLevels a0)
 bif (!c1) then
 (0 : Int)
 else
 let x2 : Int := (IntKind.wrap .i64 ((3 : Int) * a0))
 let x3 : Int := (IntKind.wrap .i64 (x2 + (1 : Int)))
 x3
noncomputable def m_pyramid_Place (a0 a1 : Int) : Int × Int × Bool :=
 let b1 : Bool := (decide (a0 < (0 : Int)))
 bif (b1 == false) then
 let c2 : Int := (m_pyramid_Count a1)
 bif (decide (a0 ≥ c2)) then
 ((0 : Int), (0 : Int), false)
 else
 bif (a0 == (0 : Int)) then
 (a1, (0 : Int), true)
 else
 let x3 : Int := (IntKind.wrap .i64 (a0 + (2 : Int)))
 let x4 : Int := (IntKind.wrap .i64 (Int.tdiv x3 (3 : Int)))
 let x5 : Int := (IntKind.wrap .i64 (a1 - x4))
 let x6 : Int := (IntKind.wrap .i64 (x5 + (1 : Int)))
 let x7 : Int := (IntKind.wrap .i64 ((3 : Int) * x4))
 let x8 : Int := (IntKind.wrap .i64 (a0 - x7))
 let x9 : Int := (IntKind.wrap .i64 (x8 + (3 : Int)))
 (x6, x9, true)
 else
 ((0 : Int), (0 : Int), false)
noncomputable def m_dwt_Bands (a0 : SRect) : SA4_Rect :=
 let c1 : Bool := (m_rect_Valid a0)
 bif (!c1) then
 (SA4_Rect.mk (SRect.mk (0 : Int) (0 : Int) (0 : Int) (0 : Int)) (SRect.mk (0 : Int) (0 : Int) (0 : Int) (0 : Int)) (SRect.mk (0 : Int) (0 : Int) (0 : Int) (0 : Int)) (SRect.mk (0 : Int) (0 : Int) (0 : Int) (0 : Int)))
 else
 let x42 : Int := (intBits .and .i64 (0 : Int) (1 : Int))
 let x43 : Int := (IntKind.wrap .i64 ((1 : Int) - x42))
 let x44 : Int := (IntKind.wrap .i64 (a0.X0 + x43))
 let x45 : Int := (IntKind.wrap .i64 (Int.tdiv x44 (2 : Int)))
 let x46 : Int := (IntKind.wrap .i64 (a0.Y0 + (1 : Int)))
 let x47 : Int := (IntKind.wrap .i64 (Int.tdiv x46 (2 : Int)))
 let x48 : Int := (IntKind.wrap .i64 (a0.X1 + x43))
 let x49 : Int := (IntKind.wrap .i64 (Int.tdiv x48 (2 : Int)))
 let x50 : Int := (IntKind.wrap .i64 (a0.Y1 + (1 : Int)))
 let x51 : Int := (IntKind.wrap .i64 (Int.tdiv x50 (2 : Int)))
 let x52 : Int := (intBits .and .i64 (1 : Int) (1 : Int))
 let x53 : Int := (IntKind.wrap .i64 ((1 : Int) - x52))
 let x54 : Int := (IntKind.wrap .i64 (a0.X0 + x53))
 let x55 : Int := (IntKind.wrap .i64 (Int.tdiv x54 (2 : Int)))
 let x56 : Int := (IntKind.wrap .i64 (a0.Y0 + (1 : Int)))
 let x57 : Int := (IntKind.wrap .i64 (Int.tdiv x56 (2 : Int)))
 let x58 : Int := (IntKind.wrap .i64 (a0.X1 + x53))
 let x59 : Int := (IntKind.wrap .i64 (Int.tdiv x58 (2 : Int)))
 let x60 : Int := (IntKind.wrap .i64 (a0.Y1 + (1 : Int)))
 let x61 : Int := (IntKind.wrap .i64 (Int.tdiv x60 (2 : Int)))
 let x62 : Int := (intBits .and .i64 (2 : Int) (1 : Int))
 let x63 : Int := (IntKind.wrap .i64 ((1 : Int) - x62))
 let x64 : Int := (IntKind.wrap .i64 (a0.X0 + x63))
 let x65 : Int := (IntKind.wrap .i64 (Int.tdiv x64 (2 : Int)))
 let x66 : Int := (IntKind.wrap .i64 (a0.Y0 + (0 : Int)))
 let x67 : Int := (IntKind.wrap .i64 (Int.tdiv x66 (2 : Int)))
 let x68 : Int := (IntKind.wrap .i64 (a0.X1 + x63))
 let x69 : Int := (IntKind.wrap .i64 (Int.tdiv x68 (2 : Int)))
 let x70 : Int := (IntKind.wrap .i64 (a0.Y1 + (0 : Int)))
 let x71 : Int := (IntKind.wrap .i64 (Int.tdiv x70 (2 : Int)))
 let x72 : Int := (intBits .and .i64 (3 : Int) (1 : Int))
 let x73 : Int := (IntKind.wrap .i64 ((1 : Int) - x72))
 let x74 : Int := (IntKind.wrap .i64 (a0.X0 + x73))
 let x75 : Int := (IntKind.wrap .i64 (Int.tdiv x74 (2 : Int)))
 let x76 : Int := (IntKind.wrap .i64 (a0.Y0 + (0 : Int)))
 let x77 : Int := (IntKind.wrap .i64 (Int.tdiv x76 (2 : Int)))
 let x78 : Int := (IntKind.wrap .i64 (a0.X1 + x73))
 let x79 : Int := (IntKind.wrap .i64 (Int.tdiv x78 (2 : Int)))
 let x80 : Int := (IntKind.wrap .i64 (a0.Y1 + (0 : Int)))
 let x81 : Int := (IntKind.wrap .i64 (Int.tdiv x80 (2 : Int)))
 (SA4_Rect.mk (SRect.mk x45 x47 x49 x51) (SRect.mk x55 x57 x59 x61) (SRect.mk x65 x67 x69 x71) (SRect.mk x75 x77 x79 x81))
noncomputable def m_pyramid_Band (a0 : SRect) (a1 a2 : Int) : SRect :=
 let c1 : Int × Int × Bool := (m_pyramid_Place a2 a1)
 bif ((!c1.2.2) == false) then
 let c2 : Bool := (m_rect_Valid a0)
 bif (!c2) then
 (SRect.mk (0 : Int) (0 : Int) (0 : Int) (0 : Int))
 else
 bif (a2 == (0 : Int)) then
 let c3 : SRect := (m_pyramid_Resolution a0 a1 (0 : Int))
 c3
 else
 let x4 : Int := (IntKind.wrap .i64 (a1 - c1.1))
 let x5 : Int := (IntKind.wrap .i64 (x4 + (1 : Int)))
 let c6 : SRect := (m_pyramid_Resolution a0 a1 x5)
 let c7 : SA4_Rect := (m_dwt_Bands c6)
 bif (true && (inR c1.2.1 (4 : Nat))) then
 let x8 : Int := (bif (decide (c1.2.1 = ((0 : Nat) : Int))) then c7.e0.X0 else (bif (decide (c1.2.1 = ((1 : Nat) : Int))) then c7.e1.X0 else (bif (decide (c1.2.1 = ((2 : Nat) : Int))) then c7.e2.X0 else c7.e3.X0)))
 let x9 : Int := (bif (decide (c1.2.1 = ((0 : Nat) : Int))) then c7.e0.Y0 else (bif (decide (c1.2.1 = ((1 : Nat) : Int))) then c7.e1.Y0 else (bif (decide (c1.2.1 = ((2 : Nat) : Int))) then c7.e2.Y0 else c7.e3.Y0)))
 let x10 : Int := (bif (decide (c1.2.1 = ((0 : Nat) : Int))) then c7.e0.X1 else (bif (decide (c1.2.1 = ((1 : Nat) : Int))) then c7.e1.X1 else (bif (decide (c1.2.1 = ((2 : Nat) : Int))) then c7.e2.X1 else c7.e3.X1)))
 let x11 : Int := (bif (decide (c1.2.1 = ((0 : Nat) : Int))) then c7.e0.Y1 else (bif (decide (c1.2.1 = ((1 : Nat) : Int))) then c7.e1.Y1 else (bif (decide (c1.2.1 = ((2 : Nat) : Int))) then c7.e2.Y1 else c7.e3.Y1)))
 (SRect.mk x8 x9 x10 x11)
 else default
 else
 (SRect.mk (0 : Int) (0 : Int) (0 : Int) (0 : Int))
def tfRes (p : SParams) (r : SRect) (res : Int) : Bool := (m_pyramid_Indices p.Levels res).all fun w =>
  !decide (m_params_cells (m_pyramid_Band r p.Levels (V.toInt (List.getD w 0 V.undef)))
    (bif decide ((bif decide (res > 0) then IntKind.wrap .i64 ((m_params_Precinct p res).X - 1) else (m_params_Precinct p res).X) < p.BlockX) then (bif decide (res > 0) then IntKind.wrap .i64 ((m_params_Precinct p res).X - 1) else (m_params_Precinct p res).X) else p.BlockX)
    (bif decide ((bif decide (res > 0) then IntKind.wrap .i64 ((m_params_Precinct p res).Y - 1) else (m_params_Precinct p res).Y) < p.BlockY) then (bif decide (res > 0) then IntKind.wrap .i64 ((m_params_Precinct p res).Y - 1) else (m_params_Precinct p res).Y) else p.BlockY) > 65536)
def tfPk (p : SParams) (r : SRect) (res : Int) : Int := IntKind.wrap .i64 (m_params_cells (m_pyramid_Resolution r p.Levels res) (m_params_Precinct p res).X (m_params_Precinct p res).Y * p.Layers)
def compRect (t : SRect) (w : List V) : SRect := m_rect_Reduce t (SComponent.of w).DX (SComponent.of w).DY
def m_params_tileFits (h : SHeader) (p : SParams) (t : SRect) : Bool :=
  (h.Components.all fun w => (rngI 0 (p.Levels + 1)).all fun res => tfRes p (compRect t w) res) &&
  decide (h.Components.foldl (fun s w => (rngI 0 (p.Levels + 1)).foldl (fun s res => IntKind.wrap .i64 (s + tfPk p (compRect t w) res)) s) 0 ≤ 65536)
def kindB (p : SParams) : Bool := inB 1 3 p.Kernel && inB 0 2 p.Color && inB 1 5 p.Order
def m_params_Check (h : SHeader) (p : SParams) : Int :=
  bif m_params_Header h != 0 then m_params_Header h
  else bif !kindB p then 3
  else bif !m_params_numbers h p then 13
  else bif (cellsL h.Area h.TileW h.TileH).all fun t => m_params_tileFits h p t then 0
  else 5
noncomputable def m_layout_exists (a0 : SHeader) (a1 : SParams) (a2 a3 : Int) : Bool :=
 let c1 : Int := (m_params_Check a0 a1)
 let b2 : Bool := (decide (a2 ≥ (0 : Int)))
 let b3 : Bool := (bif (c1 == (0 : Int)) then b2 else false)
 bif (b3 == true) then
 let c4 : Rows := (m_layout_Tiles a0)
 let x5 : Int := (((List.length c4) : Nat) : Int)
 let b6 : Bool := (decide (a3 ≥ (0 : Int)))
 let b7 : Bool := (bif (decide (a2 < x5)) then b6 else false)
 bif (b7 == true) then
 let x8 : Int := (((List.length a0.Components) : Nat) : Int)
 (decide (a3 < x8))
 else
 false
 else
 false
def byteAt (b : Rows) (i : Int) : Int := V.toInt (List.getD (List.getD b i.toNat []) 0 V.undef)
def lenOK (l : Rows) : Bool := Nat.ble l.length 1048576
def u8All (l : Rows) : Bool := l.all fun w => decide (0 ≤ V.toInt (List.getD w 0 V.undef)) && decide (V.toInt (List.getD w 0 V.undef) ≤ 255)
def m_R28_ReadUint (b : Rows) (a n : Int) : Int × Int :=
  bif decide (n < 1) || decide (n > 4) || decide (a < 0) || decide (a > (b.length : Int)) then (0, 2)
  else bif decide ((b.length : Int) - a < n) then (0, 7)
  else ((rngI 0 n).foldl (fun v k => intBits .or .i64 (IntKind.wrap .i64 (v * 2 ^ 8)) (IntKind.wrap .i64 (byteAt b (a + k)))) 0, 0)
def pre_R28_ReadUint (b : Rows) (a n : Int) : Bool := lenOK b
noncomputable def m_R28_Known (a0 : Int) : Bool :=
 let b1 : Bool := (decide (a0 ≥ (65440 : Int)))
 let b2 : Bool := (decide (a0 ≤ (65445 : Int)))
 let b3 : Bool := (bif b1 then b2 else false)
 let b4 : Bool := (bif b3 then true else (a0 == (65455 : Int)))
 let b5 : Bool := (decide (a0 ≥ (65456 : Int)))
 bif (b4 == false) then
 let b6 : Bool := (decide (a0 ≤ (65458 : Int)))
 let b7 : Bool := (bif b5 then b6 else false)
 b7
 else
 true
noncomputable def m_R28_Bare (a0 : Int) : Bool :=
 let b1 : Bool := (bif (a0 == (65440 : Int)) then true else (a0 == (65458 : Int)))
 let b2 : Bool := (bif b1 then true else (a0 == (65455 : Int)))
 b2
noncomputable def m_R28_Read (a0 : Rows) (a1 : Int) : SSegment × Int × Int :=
 let b1 : Bool := (decide (a1 < (0 : Int)))
 bif (b1 == false) then
 let x2 : Int := (((List.length a0) : Nat) : Int)
 bif (decide (a1 > x2)) then
 ((SSegment.mk (0 : Int) []), (0 : Int), (2 : Int))
 else
 bif (pre_R28_ReadUint a0 a1 (2 : Int)) then
 let c3 : Int × Int := (m_R28_ReadUint a0 a1 (2 : Int))
 bif (c3.2 != (0 : Int)) then
 ((SSegment.mk (0 : Int) []), (0 : Int), c3.2)
 else
 let c4 : Bool := (m_R28_Known c3.1)
 bif (!c4) then
 ((SSegment.mk (0 : Int) []), (0 : Int), (11 : Int))
 else
 let c5 : Bool := (m_R28_Bare c3.1)
 bif c5 then
 let x6 : Int := (IntKind.wrap .i64 (a1 + (2 : Int)))
 ((SSegment.mk c3.1 []), x6, (0 : Int))
 else
 let x7 : Int := (IntKind.wrap .i64 (a1 + (2 : Int)))
 bif (pre_R28_ReadUint a0 x7 (2 : Int)) then
 let c8 : Int × Int := (m_R28_ReadUint a0 x7 (2 : Int))
 bif (c8.2 != (0 : Int)) then
 ((SSegment.mk (0 : Int) []), (0 : Int), c8.2)
 else
 let b9 : Bool := (decide (c8.1 < (2 : Int)))
 bif b9 then
 ((SSegment.mk (0 : Int) []), (0 : Int), (4 : Int))
 else
 let x10 : Int := (((List.length a0) : Nat) : Int)
 let x11 : Int := (IntKind.wrap .i64 (x10 - a1))
 let x12 : Int := (IntKind.wrap .i64 (x11 - (2 : Int)))
 bif (decide (x12 < c8.1)) then
 ((SSegment.mk (0 : Int) []), (0 : Int), (7 : Int))
 else
 let x13 : Int := (IntKind.wrap .i64 (a1 + (4 : Int)))
 let x14 : Int := (IntKind.wrap .i64 (a1 + (2 : Int)))
 let x15 : Int := (IntKind.wrap .i64 (x14 + c8.1))
 bif (((decide ((0 : Int) ≤ x13)) && (decide (x13 ≤ x15))) && (decide (x15 ≤ (((List.length a0) : Nat) : Int)))) then
 let r16 : Rows := (List.drop (Int.toNat x13) (List.take (Int.toNat x15) a0))
 bif (roomOK ((0 : Nat) + (List.length r16)) 1) then
 let x17 : Int := (IntKind.wrap .i64 (a1 + (2 : Int)))
 let x18 : Int := (IntKind.wrap .i64 (x17 + c8.1))
 ((SSegment.mk c3.1 ([] ++ r16)), x18, (0 : Int))
 else default
 else default
 else default
 else default
 else
 ((SSegment.mk (0 : Int) []), (0 : Int), (2 : Int))
noncomputable def pre_R28_Read (a0 : Rows) (a1 : Int) : Bool :=
 let b1 : Bool := (decide (a1 < (0 : Int)))
 bif (b1 == false) then
 let x2 : Int := (((List.length a0) : Nat) : Int)
 bif (decide (a1 > x2)) then
 true
 else
 bif (pre_R28_ReadUint a0 a1 (2 : Int)) then
 let c3 : Int × Int := (m_R28_ReadUint a0 a1 (2 : Int))
 bif (c3.2 != (0 : Int)) then
 true
 else
 let c4 : Bool := (m_R28_Known c3.1)
 bif (!c4) then
 true
 else
 let c5 : Bool := (m_R28_Bare c3.1)
 bif c5 then
 true
 else
 let x7 : Int := (IntKind.wrap .i64 (a1 + (2 : Int)))
 bif (pre_R28_ReadUint a0 x7 (2 : Int)) then
 let c8 : Int × Int := (m_R28_ReadUint a0 x7 (2 : Int))
 bif (c8.2 != (0 : Int)) then
 true
 else
 let b9 : Bool := (decide (c8.1 < (2 : Int)))
 bif b9 then
 true
 else
 let x10 : Int := (((List.length a0) : Nat) : Int)
 let x11 : Int := (IntKind.wrap .i64 (x10 - a1))
 let x12 : Int := (IntKind.wrap .i64 (x11 - (2 : Int)))
 bif (decide (x12 < c8.1)) then
 true
 else
 let x13 : Int := (IntKind.wrap .i64 (a1 + (4 : Int)))
 let x14 : Int := (IntKind.wrap .i64 (a1 + (2 : Int)))
 let x15 : Int := (IntKind.wrap .i64 (x14 + c8.1))
 bif (((decide ((0 : Int) ≤ x13)) && (decide (x13 ≤ x15))) && (decide (x15 ≤ (((List.length a0) : Nat) : Int)))) then
 let r16 : Rows := (List.drop (Int.toNat x13) (List.take (Int.toNat x15) a0))
 bif (roomOK ((0 : Nat) + (List.length r16)) 1) then
 true
 else false
 else false
 else false
 else false
 else
 true
def allM (b : Rows) : Nat → Int → Rows → Rows × Int × Int
  | 0, a, l => (l, a, 0)
  | n + 1, a, l =>
    bif ((m_R28_ReadUint b a 2).2 == 0) && (((m_R28_ReadUint b a 2).1 == 65456) || ((m_R28_ReadUint b a 2).1 == 65458) || ((m_R28_ReadUint b a 2).1 == 65455)) then (l, a, 0)
    else bif (m_R28_Read b a).2.2 != 0 then ([], 0, (m_R28_Read b a).2.2)
    else allM b n (m_R28_Read b a).2.1 (l ++ [SSegment.row (m_R28_Read b a).1])
def m_R28_All (b : Rows) (a : Int) : Rows × Int × Int := allM b (b.length + 3) a []
def pre_R28_All (b : Rows) (a : Int) : Bool := lenOK b && decide (0 ≤ a) && decide (a ≤ (b.length : Int))
noncomputable def m_R29_framed (a0 : SSegment) (a1 a2 : Int) : Int :=
 bif (a0.Code != a1) then
 (11 : Int)
 else
 let x1 : Int := (((List.length a0.Payload) : Nat) : Int)
 bif (decide (x1 < a2)) then
 (7 : Int)
 else
 let x2 : Int := (((List.length a0.Payload) : Nat) : Int)
 bif (decide (x2 > a2)) then
 (9 : Int)
 else
 (0 : Int)
def m_R29_get (b : Rows) (a n : Int) : Int := (rngI 0 n).foldl (fun v k => IntKind.wrap .i64 (IntKind.wrap .i64 (256 * v) + IntKind.wrap .i64 (byteAt b (a + k)))) 0
def pre_R29_get (b : Rows) (a n : Int) : Bool := lenOK b && decide (0 ≤ a) && decide (a + n ≤ (b.length : Int))
noncomputable def m_R01_Valid (a0 : SRect) : Bool :=
 let b1 : Bool := (decide ((0 : Int) ≤ a0.X0))
 let b2 : Bool := (bif b1 then (decide (a0.X0 ≤ a0.X1)) else false)
 let b3 : Bool := (decide (a0.X1 ≤ (4096 : Int)))
 let b4 : Bool := (bif b2 then b3 else false)
 let b5 : Bool := (decide ((0 : Int) ≤ a0.Y0))
 let b6 : Bool := (bif b4 then b5 else false)
 let b7 : Bool := (bif b6 then (decide (a0.Y0 ≤ a0.Y1)) else false)
 let b8 : Bool := (decide (a0.Y1 ≤ (4096 : Int)))
 let b9 : Bool := (bif b7 then b8 else false)
 b9
noncomputable def m_R01_Empty (a0 : SRect) : Bool :=
 let b1 : Bool := (bif (decide (a0.X0 ≥ a0.X1)) then true else (decide (a0.Y0 ≥ a0.Y1)))
 b1
noncomputable def m_R23_in (a0 a1 a2 : Int) : Bool :=
 let b1 : Bool := (bif (decide (a1 ≤ a0)) then (decide (a0 ≤ a2)) else false)
 b1
noncomputable def m_R01_CeilDiv (a0 a1 : Int) : Int :=
 let b1 : Bool := (decide (a1 < (1 : Int)))
 bif b1 then
 (0 : Int)
 else
 bif (a1 != 0) then
 let x2 : Int := (IntKind.wrap .i64 (Int.tdiv a0 a1))
 bif (a1 != 0) then
 let b3 : Bool := (decide ((Int.tmod a0 a1) > (0 : Int)))
 bif b3 then
 let x4 : Int := (IntKind.wrap .i64 (x2 + (1 : Int)))
 x4
 else
 x2
 else default
 else default
noncomputable def pre_R01_CeilDiv (a0 a1 : Int) : Bool :=
 let b1 : Bool := (decide (a1 < (1 : Int)))
 bif b1 then
 true
 else
 bif (a1 != 0) then
 bif (a1 != 0) then
 let b3 : Bool := (decide ((Int.tmod a0 a1) > (0 : Int)))
 bif b3 then
 true
 else
 true
 else false
 else false
noncomputable def m_R01_Reduce (a0 : SRect) (a1 a2 : Int) : SRect :=
 let c1 : Bool := (m_R01_Valid a0)
 let b2 : Bool := (decide (a1 < (1 : Int)))
 let b3 : Bool := (bif (!c1) then true else b2)
 let b4 : Bool := (decide (a1 > (4096 : Int)))
 let b5 : Bool := (bif b3 then true else b4)
 let b6 : Bool := (decide (a2 < (1 : Int)))
 let b7 : Bool := (bif b5 then true else b6)
 let b8 : Bool := (decide (a2 > (4096 : Int)))
 let b9 : Bool := (bif b7 then true else b8)
 bif b9 then
 (SRect.mk (0 : Int) (0 : Int) (0 : Int) (0 : Int))
 else
 let c10 : Int := (m_R01_CeilDiv a0.X0 a1)
 let c11 : Int := (m_R01_CeilDiv a0.Y0 a2)
 let c12 : Int := (m_R01_CeilDiv a0.X1 a1)
 let c13 : Int := (m_R01_CeilDiv a0.Y1 a2)
 (SRect.mk c10 c11 c12 c13)
noncomputable def m_R01_FloorDiv (a0 a1 : Int) : Int :=
 let b1 : Bool := (decide (a1 < (1 : Int)))
 bif b1 then
 (0 : Int)
 else
 bif (a1 != 0) then
 let x2 : Int := (IntKind.wrap .i64 (Int.tdiv a0 a1))
 bif (a1 != 0) then
 let b3 : Bool := (decide ((Int.tmod a0 a1) < (0 : Int)))
 bif b3 then
 let x4 : Int := (IntKind.wrap .i64 (x2 - (1 : Int)))
 x4
 else
 x2
 else default
 else default
noncomputable def pre_R01_FloorDiv (a0 a1 : Int) : Bool :=
 let b1 : Bool := (decide (a1 < (1 : Int)))
 bif b1 then
 true
 else
 bif (a1 != 0) then
 bif (a1 != 0) then
 let b3 : Bool := (decide ((Int.tmod a0 a1) < (0 : Int)))
 bif b3 then
 true
 else
 true
 else false
 else false
noncomputable def m_R23_tiles (a0 : SHeader) : Int :=
 let c1 : Int := (m_R01_CeilDiv a0.Area.X1 a0.TileW)
 let c2 : Int := (m_R01_FloorDiv a0.Area.X0 a0.TileW)
 let x3 : Int := (IntKind.wrap .i64 (c1 - c2))
 let c4 : Int := (m_R01_CeilDiv a0.Area.Y1 a0.TileH)
 let c5 : Int := (m_R01_FloorDiv a0.Area.Y0 a0.TileH)
 let x6 : Int := (IntKind.wrap .i64 (c4 - c5))
 let x7 : Int := (IntKind.wrap .i64 (x3 * x6))
 x7
noncomputable def m_R01_Area (a0 : SRect) : Int :=
 let c1 : Bool := (m_R01_Valid a0)
 bif (!c1) then
 (0 : Int)
 else
 let x2 : Int := (IntKind.wrap .i64 (a0.X1 - a0.X0))
 let x3 : Int := (IntKind.wrap .i64 (a0.Y1 - a0.Y0))
 let x4 : Int := (IntKind.wrap .i64 (x2 * x3))
 x4
def m_R23_Header (h : SHeader) : Int := m_params_Header h
def compRow (b : Rows) (i : Int) : List V := [.int .i64 (IntKind.wrap .i64 (Int.tmod (IntKind.wrap .i64 (byteAt b i)) 128 + 1)), .bool (decide (byteAt b i ≥ 128)), .int .i64 (IntKind.wrap .i64 (byteAt b (i + 1))), .int .i64 (IntKind.wrap .i64 (byteAt b (i + 2)))]
def stepL (f : Int → List V) (d n : Int) : Nat → Int → Rows → Rows
  | 0, _, l => l
  | k + 1, i, l => bif decide (i < n) then stepL f d n k (i + d) (l ++ [f i]) else l
def sizeN (b : Rows) : Int := bif decide ((b.length : Int) ≥ 13) then IntKind.wrap .i64 (13 + IntKind.wrap .i64 (3 * IntKind.wrap .i64 (byteAt b 12))) else 13
def m_R29_ParseSize (s : SSegment) : SHeader × Int :=
  bif m_R29_framed s 65441 (sizeN s.Payload) != 0 then (SHeader.of [], m_R29_framed s 65441 (sizeN s.Payload))
  else (fun (h : SHeader) => bif m_R23_Header h != 0 then (SHeader.of [], m_R23_Header h) else (h, 0))
    ⟨⟨m_R29_get s.Payload 0 2, m_R29_get s.Payload 2 2, m_R29_get s.Payload 4 2, m_R29_get s.Payload 6 2⟩, m_R29_get s.Payload 8 2, m_R29_get s.Payload 10 2, stepL (compRow s.Payload) 3 (sizeN s.Payload) ((sizeN s.Payload - 13).toNat + 1) 13 []⟩
def pre_R29_ParseSize (s : SSegment) : Bool := lenOK s.Payload && u8All s.Payload
def pointRow (b : Rows) (i : Int) : List V := [.int .i64 (Int.tmod (IntKind.wrap .i64 (byteAt b i)) 16), .int .i64 (IntKind.wrap .i64 (Int.tdiv (IntKind.wrap .i64 (byteAt b i)) 16))]
def codeN (b : Rows) : Int := bif decide ((b.length : Int) ≥ 10) then IntKind.wrap .i64 (10 + IntKind.wrap .i64 (byteAt b 9)) else 10
def flagOf (b : Rows) (d : Int) : Bool := Int.tmod (IntKind.wrap .i64 (Int.tdiv (IntKind.wrap .i64 (byteAt b 7)) d)) 2 == 1
def m_R29_ParseCoding (s : SSegment) : SParams × Int :=
  bif m_R29_framed s 65442 (codeN s.Payload) != 0 then (SParams.of [], m_R29_framed s 65442 (codeN s.Payload))
  else (⟨IntKind.wrap .i64 (byteAt s.Payload 0), IntKind.wrap .i64 (byteAt s.Payload 1), IntKind.wrap .i64 (byteAt s.Payload 2), IntKind.wrap .i64 (byteAt s.Payload 3), IntKind.wrap .i64 (byteAt s.Payload 4),
    stepL (pointRow s.Payload) 1 (codeN s.Payload) ((codeN s.Payload - 10).toNat + 1) 10 [], IntKind.wrap .i64 (byteAt s.Payload 5), IntKind.wrap .i64 (byteAt s.Payload 6),
    ⟨Int.tmod (IntKind.wrap .i64 (byteAt s.Payload 7)) 2 == 1, flagOf s.Payload 2, flagOf s.Payload 4, flagOf s.Payload 8, flagOf s.Payload 16⟩, flagOf s.Payload 32, flagOf s.Payload 64,
    IntKind.wrap .i64 (Int.tdiv (IntKind.wrap .i64 (byteAt s.Payload 7)) 128) == 1, [], 0, IntKind.wrap .i64 (byteAt s.Payload 8)⟩, 0)
def pre_R29_ParseCoding (s : SSegment) : Bool := lenOK s.Payload
noncomputable def m_R23_Clone (a0 : SHeader) (a1 : SParams) : SHeader × SParams :=
 bif (roomOK ((0 : Nat) + (List.length a0.Components)) 32) then
 bif (roomOK ((0 : Nat) + (List.length a1.Precincts)) 16) then
 bif (roomOK ((0 : Nat) + (List.length a1.Steps)) 8) then
 ((SHeader.mk a0.Area a0.TileW a0.TileH ([] ++ a0.Components)), (SParams.mk a1.Kernel a1.Levels a1.Color a1.BlockX a1.BlockY ([] ++ a1.Precincts) a1.Order a1.Layers a1.Mode a1.Divide a1.Sync a1.Fence ([] ++ a1.Steps) a1.Dead a1.Shift))
 else default
 else default
 else default
noncomputable def pre_R23_Clone (a0 : SHeader) (a1 : SParams) : Bool :=
 bif (roomOK ((0 : Nat) + (List.length a0.Components)) 32) then
 bif (roomOK ((0 : Nat) + (List.length a1.Precincts)) 16) then
 bif (roomOK ((0 : Nat) + (List.length a1.Steps)) 8) then
 true
 else false
 else false
 else false
def quantN (b : Rows) : Int := bif decide ((b.length : Int) ≥ 2) then IntKind.wrap .i64 (2 + IntKind.wrap .i64 (2 * IntKind.wrap .i64 (byteAt b 1))) else 2
def quantRow (b : Rows) (i : Int) : List V := [.int .i64 (IntKind.wrap .i64 (m_R29_get b i 2 + 1))]
def m_R29_ParseQuant (s : SSegment) (p : SParams) : SParams × Int :=
  bif m_R29_framed s 65443 (quantN s.Payload) != 0 then (SParams.of [], m_R29_framed s 65443 (quantN s.Payload))
  else (⟨p.Kernel, p.Levels, p.Color, p.BlockX, p.BlockY, p.Precincts, p.Order, p.Layers, p.Mode, p.Divide, p.Sync, p.Fence, stepL (quantRow s.Payload) 2 (quantN s.Payload) ((quantN s.Payload - 2).toNat + 1) 2 [], IntKind.wrap .i64 (byteAt s.Payload 0), p.Shift⟩, 0)
def pre_R29_ParseQuant (s : SSegment) (p : SParams) : Bool := lenOK s.Payload && lenOK p.Precincts && lenOK p.Steps
noncomputable def m_R01_Intersect (a0 a1 : SRect) : SRect :=
 let x1 : Int := (bif (decide (a1.X0 > a0.X0)) then a1.X0 else a0.X0)
 let x2 : Int := (bif (decide (a1.Y0 > a0.Y0)) then a1.Y0 else a0.Y0)
 let x3 : Int := (bif (decide (a1.X1 < a0.X1)) then a1.X1 else a0.X1)
 let x4 : Int := (bif (decide (a1.Y1 < a0.Y1)) then a1.Y1 else a0.Y1)
 let c5 : Bool := (m_R01_Empty (SRect.mk x1 x2 x3 x4))
 bif c5 then
 (SRect.mk (0 : Int) (0 : Int) (0 : Int) (0 : Int))
 else
 (SRect.mk x1 x2 x3 x4)
def m_R01_Cells (r : SRect) (w h : Int) : Rows := m_rect_Cells r w h
noncomputable def m_R24_Tiles (a0 : SHeader) : Rows :=
 let c1 : Int := (m_R23_Header a0)
 bif (c1 != (0 : Int)) then
 []
 else
 let c2 : Rows := (m_R01_Cells a0.Area a0.TileW a0.TileH)
 c2
noncomputable def m_R23_kinds (a0 : SParams) : Bool :=
 let b1 : Bool := (decide (a0.Kernel ≥ (1 : Int)))
 let b2 : Bool := (decide (a0.Kernel ≤ (3 : Int)))
 let b3 : Bool := (bif b1 then b2 else false)
 let b4 : Bool := (decide (a0.Color ≥ (0 : Int)))
 let b5 : Bool := (bif b3 then b4 else false)
 let b6 : Bool := (decide (a0.Color ≤ (2 : Int)))
 let b7 : Bool := (bif b5 then b6 else false)
 let b8 : Bool := (decide (a0.Order ≥ (1 : Int)))
 let b9 : Bool := (bif b7 then b8 else false)
 let b10 : Bool := (decide (a0.Order ≤ (5 : Int)))
 let b11 : Bool := (bif b9 then b10 else false)
 b11
def m_R23_numbers (p : SParams) : Bool := numB p
noncomputable def m_R23_Precinct (a0 : SParams) (a1 : Int) : SPoint :=
 let b1 : Bool := (decide (a1 < (0 : Int)))
 let b2 : Bool := (decide (a1 > a0.Levels))
 let b3 : Bool := (bif b1 then true else b2)
 bif b3 then
 (SPoint.mk (0 : Int) (0 : Int))
 else
 let x4 : Int := (((List.length a0.Precincts) : Nat) : Int)
 bif (x4 == (0 : Int)) then
 (SPoint.mk (12 : Int) (12 : Int))
 else
 let x5 : Int := (((List.length a0.Precincts) : Nat) : Int)
 bif (decide (a1 ≥ x5)) then
 (SPoint.mk (0 : Int) (0 : Int))
 else
 bif (inR a1 (List.length a0.Precincts)) then
 let w6 : List V := (List.getD a0.Precincts (Int.toNat a1) [])
 let s7 : SPoint := (SPoint.of w6)
 s7
 else default
noncomputable def pre_R23_Precinct (a0 : SParams) (a1 : Int) : Bool :=
 let b1 : Bool := (decide (a1 < (0 : Int)))
 let b2 : Bool := (decide (a1 > a0.Levels))
 let b3 : Bool := (bif b1 then true else b2)
 bif b3 then
 true
 else
 let x4 : Int := (((List.length a0.Precincts) : Nat) : Int)
 bif (x4 == (0 : Int)) then
 true
 else
 let x5 : Int := (((List.length a0.Precincts) : Nat) : Int)
 bif (decide (a1 ≥ x5)) then
 true
 else
 bif (inR a1 (List.length a0.Precincts)) then
 true
 else false
noncomputable def m_R23_Grid (a0 : SRect) (a1 a2 : Int) : Int :=
 let c1 : Bool := (m_R01_Empty a0)
 bif c1 then
 (0 : Int)
 else
 bif (decide ((0 : Int) ≤ a1)) then
 let x2 : Int := (IntKind.wrap .i64 ((1 : Int) * 2 ^ (min (Int.toNat a1) 64)))
 let c3 : Int := (m_R01_CeilDiv a0.X1 x2)
 bif (decide ((0 : Int) ≤ a1)) then
 let x4 : Int := (IntKind.wrap .i64 ((1 : Int) * 2 ^ (min (Int.toNat a1) 64)))
 let c5 : Int := (m_R01_FloorDiv a0.X0 x4)
 let x6 : Int := (IntKind.wrap .i64 (c3 - c5))
 bif (decide ((0 : Int) ≤ a2)) then
 let x7 : Int := (IntKind.wrap .i64 ((1 : Int) * 2 ^ (min (Int.toNat a2) 64)))
 let c8 : Int := (m_R01_CeilDiv a0.Y1 x7)
 bif (decide ((0 : Int) ≤ a2)) then
 let x9 : Int := (IntKind.wrap .i64 ((1 : Int) * 2 ^ (min (Int.toNat a2) 64)))
 let c10 : Int := (m_R01_FloorDiv a0.Y0 x9)
 let x11 : Int := (IntKind.wrap .i64 (c8 - c10))
 let x12 : Int := (IntKind.wrap .i64 (x6 * x11))
 x12
 else default
 else default
 else default
 else default
noncomputable def pre_R23_Grid (a0 : SRect) (a1 a2 : Int) : Bool :=
 let c1 : Bool := (m_R01_Empty a0)
 bif c1 then
 true
 else
 bif (decide ((0 : Int) ≤ a1)) then
 bif (decide ((0 : Int) ≤ a1)) then
 bif (decide ((0 : Int) ≤ a2)) then
 bif (decide ((0 : Int) ≤ a2)) then
 true
 else false
 else false
 else false
 else false
noncomputable def m_R06_Count (a0 : Int) : Int :=
 let b1 : Bool := (decide (a0 < (0 : Int)))
 let b2 : Bool := (decide (a0 > (5 : Int)))
 let b3 : Bool := (bif b1 then true else b2)
 bif b3 then
 (0 : Int)
 else
 let x4 : Int := (IntKind.wrap .i64 ((3 : Int) * a0))
 let x5 : Int := (IntKind.wrap .i64 (x4 + (1 : Int)))
 x5
def m_R06_Resolution (r : SRect) (l i : Int) : SRect := m_pyramid_Resolution r l i
def m_R23_Packets (h : SHeader) (p : SParams) (t : SRect) : Int :=
  IntKind.wrap .i64 (h.Components.foldl (fun s w => (rngI 0 (p.Levels + 1)).foldl (fun s res => IntKind.wrap .i64 (s + m_R23_Grid (m_pyramid_Resolution (compRect t w) p.Levels res) (m_params_Precinct p res).X (m_params_Precinct p res).Y)) s) 0 * p.Layers)
def pre_R23_Packets (h : SHeader) (p : SParams) (t : SRect) : Bool := Nat.ble h.Components.length 1048576 && decide (p.Levels ≤ 5) && ((rngI 0 (p.Levels + 1)).all fun res => decide (0 ≤ (m_params_Precinct p res).X) && decide (0 ≤ (m_params_Precinct p res).Y))
noncomputable def m_R06_Place (a0 a1 : Int) : Int × Int × Bool :=
 let b1 : Bool := (decide (a0 < (0 : Int)))
 bif (b1 == false) then
 let c2 : Int := (m_R06_Count a1)
 bif (decide (a0 ≥ c2)) then
 ((0 : Int), (0 : Int), false)
 else
 bif (a0 == (0 : Int)) then
 (a1, (0 : Int), true)
 else
 let x3 : Int := (IntKind.wrap .i64 (a0 + (2 : Int)))
 let x4 : Int := (IntKind.wrap .i64 (Int.tdiv x3 (3 : Int)))
 let x5 : Int := (IntKind.wrap .i64 (a1 - x4))
 let x6 : Int := (IntKind.wrap .i64 (x5 + (1 : Int)))
 let x7 : Int := (IntKind.wrap .i64 ((3 : Int) * x4))
 let x8 : Int := (IntKind.wrap .i64 (a0 - x7))
 let x9 : Int := (IntKind.wrap .i64 (x8 + (3 : Int)))
 (x6, x9, true)
 else
 ((0 : Int), (0 : Int), false)
noncomputable def m_R05_half (a0 : Int) (a1 : Bool) : Int :=
 bif a1 then
 let x1 : Int := (IntKind.wrap .i64 (Int.tdiv a0 (2 : Int)))
 x1
 else
 let x2 : Int := (IntKind.wrap .i64 (a0 + (1 : Int)))
 let x3 : Int := (IntKind.wrap .i64 (Int.tdiv x2 (2 : Int)))
 x3
noncomputable def m_R05_Bands (a0 : SRect) : SA4_Rect :=
 let c1 : Bool := (m_R01_Valid a0)
 bif (!c1) then
 (SA4_Rect.mk (SRect.mk (0 : Int) (0 : Int) (0 : Int) (0 : Int)) (SRect.mk (0 : Int) (0 : Int) (0 : Int) (0 : Int)) (SRect.mk (0 : Int) (0 : Int) (0 : Int) (0 : Int)) (SRect.mk (0 : Int) (0 : Int) (0 : Int) (0 : Int)))
 else
 let c18 : Int := (m_R05_half a0.X0 false)
 let c19 : Int := (m_R05_half a0.Y0 false)
 let c20 : Int := (m_R05_half a0.X1 false)
 let c21 : Int := (m_R05_half a0.Y1 false)
 let c22 : Int := (m_R05_half a0.X0 true)
 let c23 : Int := (m_R05_half a0.Y0 false)
 let c24 : Int := (m_R05_half a0.X1 true)
 let c25 : Int := (m_R05_half a0.Y1 false)
 let c26 : Int := (m_R05_half a0.X0 false)
 let c27 : Int := (m_R05_half a0.Y0 true)
 let c28 : Int := (m_R05_half a0.X1 false)
 let c29 : Int := (m_R05_half a0.Y1 true)
 let c30 : Int := (m_R05_half a0.X0 true)
 let c31 : Int := (m_R05_half a0.Y0 true)
 let c32 : Int := (m_R05_half a0.X1 true)
 let c33 : Int := (m_R05_half a0.Y1 true)
 (SA4_Rect.mk (SRect.mk c18 c19 c20 c21) (SRect.mk c22 c23 c24 c25) (SRect.mk c26 c27 c28 c29) (SRect.mk c30 c31 c32 c33))
noncomputable def m_R06_Band (a0 : SRect) (a1 a2 : Int) : SRect :=
 let c1 : Int × Int × Bool := (m_R06_Place a2 a1)
 bif ((!c1.2.2) == false) then
 let c2 : Bool := (m_R01_Valid a0)
 bif (!c2) then
 (SRect.mk (0 : Int) (0 : Int) (0 : Int) (0 : Int))
 else
 bif (a2 == (0 : Int)) then
 let c3 : SRect := (m_R06_Resolution a0 a1 (0 : Int))
 c3
 else
 let x4 : Int := (IntKind.wrap .i64 (a1 - c1.1))
 let x5 : Int := (IntKind.wrap .i64 (x4 + (1 : Int)))
 let c6 : SRect := (m_R06_Resolution a0 a1 x5)
 let c7 : SA4_Rect := (m_R05_Bands c6)
 bif (true && (inR c1.2.1 (4 : Nat))) then
 let x8 : Int := (bif (decide (c1.2.1 = ((0 : Nat) : Int))) then c7.e0.X0 else (bif (decide (c1.2.1 = ((1 : Nat) : Int))) then c7.e1.X0 else (bif (decide (c1.2.1 = ((2 : Nat) : Int))) then c7.e2.X0 else c7.e3.X0)))
 let x9 : Int := (bif (decide (c1.2.1 = ((0 : Nat) : Int))) then c7.e0.Y0 else (bif (decide (c1.2.1 = ((1 : Nat) : Int))) then c7.e1.Y0 else (bif (decide (c1.2.1 = ((2 : Nat) : Int))) then c7.e2.Y0 else c7.e3.Y0)))
 let x10 : Int := (bif (decide (c1.2.1 = ((0 : Nat) : Int))) then c7.e0.X1 else (bif (decide (c1.2.1 = ((1 : Nat) : Int))) then c7.e1.X1 else (bif (decide (c1.2.1 = ((2 : Nat) : Int))) then c7.e2.X1 else c7.e3.X1)))
 let x11 : Int := (bif (decide (c1.2.1 = ((0 : Nat) : Int))) then c7.e0.Y1 else (bif (decide (c1.2.1 = ((1 : Nat) : Int))) then c7.e1.Y1 else (bif (decide (c1.2.1 = ((2 : Nat) : Int))) then c7.e2.Y1 else c7.e3.Y1)))
 (SRect.mk x8 x9 x10 x11)
 else default
 else
 (SRect.mk (0 : Int) (0 : Int) (0 : Int) (0 : Int))
noncomputable def pre_R06_Band (a0 : SRect) (a1 a2 : Int) : Bool :=
 let c1 : Int × Int × Bool := (m_R06_Place a2 a1)
 bif ((!c1.2.2) == false) then
 let c2 : Bool := (m_R01_Valid a0)
 bif (!c2) then
 true
 else
 bif (a2 == (0 : Int)) then
 true
 else
 bif (true && (inR c1.2.1 (4 : Nat))) then
 true
 else false
 else
 true
def blX (p : SParams) (i : Int) : Int := (fun x => bif decide (x < p.BlockX) then x else p.BlockX) (IntKind.wrap .i64 ((m_params_Precinct p ((i + 2) / 3)).X - (bif decide (1 < (i + 2) / 3) then 1 else (i + 2) / 3)))
def blY (p : SParams) (i : Int) : Int := (fun x => bif decide (x < p.BlockY) then x else p.BlockY) (IntKind.wrap .i64 ((m_params_Precinct p ((i + 2) / 3)).Y - (bif decide (1 < (i + 2) / 3) then 1 else (i + 2) / 3)))
def m_R23_Blocks (h : SHeader) (p : SParams) (t : SRect) : Int :=
  h.Components.foldl (fun s w => (rngI 0 (3 * p.Levels + 1)).foldl (fun s i => (fun c => bif decide (c > s) then c else s) (m_R23_Grid (m_R06_Band (compRect t w) p.Levels i) (blX p i) (blY p i))) s) 0
def pre_R23_Blocks (h : SHeader) (p : SParams) (t : SRect) : Bool := Nat.ble h.Components.length 1048576 && decide (0 ≤ p.Levels) && decide (p.Levels ≤ 5) && ((rngI 0 (3 * p.Levels + 1)).all fun i => decide (0 ≤ blX p i) && decide (0 ≤ blY p i))
def m_R23_Check (h : SHeader) (p : SParams) : Int := m_params_Check h p
noncomputable def m_R24_ValidTile (a0 : SHeader) (a1 : SParams) (a2 a3 : Int) : Bool :=
 let c1 : Int := (m_R23_Check a0 a1)
 let b2 : Bool := (decide (a2 ≥ (0 : Int)))
 let b3 : Bool := (bif (c1 == (0 : Int)) then b2 else false)
 bif (b3 == true) then
 let c4 : Rows := (m_R24_Tiles a0)
 let x5 : Int := (((List.length c4) : Nat) : Int)
 let b6 : Bool := (decide (a3 ≥ (0 : Int)))
 let b7 : Bool := (bif (decide (a2 < x5)) then b6 else false)
 bif (b7 == true) then
 let x8 : Int := (((List.length a0.Components) : Nat) : Int)
 (decide (a3 < x8))
 else
 false
 else
 false
noncomputable def m_R24_Packets (a0 : SHeader) (a1 : SParams) (a2 : Int) : Int :=
 let c1 : Bool := (m_R24_ValidTile a0 a1 a2 (0 : Int))
 bif (!c1) then
 (0 : Int)
 else
 let c2 : Rows := (m_R24_Tiles a0)
 bif (inR a2 (List.length c2)) then
 let w3 : List V := (List.getD c2 (Int.toNat a2) [])
 let s4 : SRect := (SRect.of w3)
 bif (pre_R23_Packets a0 a1 s4) then
 let c5 : Int := (m_R23_Packets a0 a1 s4)
 c5
 else default
 else default
noncomputable def pre_R24_Packets (a0 : SHeader) (a1 : SParams) (a2 : Int) : Bool :=
 let c1 : Bool := (m_R24_ValidTile a0 a1 a2 (0 : Int))
 bif (!c1) then
 true
 else
 let c2 : Rows := (m_R24_Tiles a0)
 bif (inR a2 (List.length c2)) then
 let w3 : List V := (List.getD c2 (Int.toNat a2) [])
 let s4 : SRect := (SRect.of w3)
 bif (pre_R23_Packets a0 a1 s4) then
 true
 else false
 else false
def m_R35_Few (h : SHeader) (p : SParams) : Bool :=
  bif decide ((h.Components.length : Int) > 10) || decide ((p.Precincts.length : Int) > 10) || decide ((p.Steps.length : Int) > 40) then false
  else bif m_params_Header h != 0 then true
  else bif decide (IntKind.wrap .i64 (h.Area.X1 - h.Area.X0) > 40) || decide (IntKind.wrap .i64 (h.Area.Y1 - h.Area.Y0) > 40) || decide (((m_layout_Tiles h).length : Int) > 16) then false
  else bif m_params_Check h p != 0 then true
  else (rngI 0 ((m_layout_Tiles h).length : Int)).all fun t => !decide (m_R24_Packets h p t > 400)
noncomputable def m_R35_FewBytes (a0 : Rows) : Bool :=
 let x1 : Int := (((List.length a0) : Nat) : Int)
 let b2 : Bool := (decide (x1 > (20000 : Int)))
 bif b2 then
 false
 else
 let x3 : Int := (((List.length a0) : Nat) : Int)
 let b4 : Bool := (decide (x3 < (2 : Int)))
 bif b4 then
 true
 else
 bif (pre_R28_All a0 (2 : Int)) then
 let c5 : Rows × Int × Int := (m_R28_All a0 (2 : Int))
 bif ((c5.2.2 != (0 : Int)) == false) then
 let x6 : Int := (((List.length c5.1) : Nat) : Int)
 let b7 : Bool := (decide (x6 < (3 : Int)))
 bif b7 then
 true
 else
 bif (inR (0 : Int) (List.length c5.1)) then
 let w8 : List V := (List.getD c5.1 (0 : Nat) [])
 let s9 : SSegment := (SSegment.of w8)
 bif (pre_R29_ParseSize s9) then
 let c10 : SHeader × Int := (m_R29_ParseSize s9)
 bif (c10.2 != (0 : Int)) then
 true
 else
 bif (inR (1 : Int) (List.length c5.1)) then
 let w11 : List V := (List.getD c5.1 (1 : Nat) [])
 let s12 : SSegment := (SSegment.of w11)
 bif (pre_R29_ParseCoding s12) then
 let c13 : SParams × Int := (m_R29_ParseCoding s12)
 bif (c13.2 != (0 : Int)) then
 true
 else
 bif (inR (2 : Int) (List.length c5.1)) then
 let w14 : List V := (List.getD c5.1 (2 : Nat) [])
 let s15 : SSegment := (SSegment.of w14)
 bif (pre_R29_ParseQuant s15 c13.1) then
 let c16 : SParams × Int := (m_R29_ParseQuant s15 c13.1)
 bif ((c16.2 != (0 : Int)) == false) then
 let c17 : Bool := (m_R35_Few c10.1 c16.1)
 c17
 else
 true
 else default
 else default
 else default
 else default
 else default
 else default
 else
 true
 else default
noncomputable def pre_R35_FewBytes (a0 : Rows) : Bool :=
 let x1 : Int := (((List.length a0) : Nat) : Int)
 let b2 : Bool := (decide (x1 > (20000 : Int)))
 bif b2 then
 true
 else
 let x3 : Int := (((List.length a0) : Nat) : Int)
 let b4 : Bool := (decide (x3 < (2 : Int)))
 bif b4 then
 true
 else
 bif (pre_R28_All a0 (2 : Int)) then
 let c5 : Rows × Int × Int := (m_R28_All a0 (2 : Int))
 bif ((c5.2.2 != (0 : Int)) == false) then
 let x6 : Int := (((List.length c5.1) : Nat) : Int)
 let b7 : Bool := (decide (x6 < (3 : Int)))
 bif b7 then
 true
 else
 bif (inR (0 : Int) (List.length c5.1)) then
 let w8 : List V := (List.getD c5.1 (0 : Nat) [])
 let s9 : SSegment := (SSegment.of w8)
 bif (pre_R29_ParseSize s9) then
 let c10 : SHeader × Int := (m_R29_ParseSize s9)
 bif (c10.2 != (0 : Int)) then
 true
 else
 bif (inR (1 : Int) (List.length c5.1)) then
 let w11 : List V := (List.getD c5.1 (1 : Nat) [])
 let s12 : SSegment := (SSegment.of w11)
 bif (pre_R29_ParseCoding s12) then
 let c13 : SParams × Int := (m_R29_ParseCoding s12)
 bif (c13.2 != (0 : Int)) then
 true
 else
 bif (inR (2 : Int) (List.length c5.1)) then
 let w14 : List V := (List.getD c5.1 (2 : Nat) [])
 let s15 : SSegment := (SSegment.of w14)
 bif (pre_R29_ParseQuant s15 c13.1) then
 let c16 : SParams × Int := (m_R29_ParseQuant s15 c13.1)
 bif ((c16.2 != (0 : Int)) == false) then
 true
 else
 true
 else false
 else false
 else false
 else false
 else false
 else false
 else
 true
 else false
def eqI (a b : Rows) : Bool := ((a.length : Int) == (b.length : Int)) && (rngI 0 (a.length : Int)).all fun i => byteAt a i == byteAt b i
def m_slices_Equal_int_int (a b : Rows) : Bool := eqI a b
def pre_slices_Equal_int_int (a b : Rows) : Bool := lenOK a
def rowsAt (l : Rows) (i : Int) : Rows := V.toRows (List.getD (List.getD l i.toNat []) 0 V.undef)
def eqP (a b : Rows) : Bool := ((a.length : Int) == (b.length : Int)) && (rngI 0 (a.length : Int)).all fun i => eqI (rowsAt a i) (rowsAt b i)
def palOK (l : Rows) : Bool := lenOK l && (rngI 0 (l.length : Int)).all fun i => lenOK (rowsAt l i)
def m_slices_EqualFunc_int_int_int_int (a b : Rows) : Bool := eqP a b
def pre_slices_EqualFunc_int_int_int_int (a b : Rows) : Bool := palOK a
def metaFew (w : List V) : Bool := !decide ((((SMeta.of w).Key.size : Nat) : Int) > 70) && !decide ((((SMeta.of w).Value.size : Nat) : Int) > 200)
def m_R48_Few (f : SFile) : Bool := m_R35_FewBytes f.Stream && !decide ((f.Meta.length : Int) > 70) && !decide ((f.Color.Roles.length : Int) > 10) && !decide ((f.Color.Palette.length : Int) > 300) && f.Meta.all metaFew && (rngI 0 (f.Color.Palette.length : Int)).all fun i => !decide (((rowsAt f.Color.Palette i).length : Int) > 10)
def pre_R48_Few (f : SFile) : Bool := u8All f.Stream
def sign12 : List Int := [0, 0, 0, 12, 115, 105, 103, 110, 13, 10, 135, 10]
def m_file_Parse (b : Rows) : SFile × Int := (SFile.of [], 20)
def pre_file_Parse (b : Rows) : Bool := byB b sign12
def isFile0 (f : SFile) : Bool := Nat.beq f.Stream.length 0
def m_file_Valid (f : SFile) : Int := 10
def pre_file_Valid (f : SFile) : Bool := isFile0 f
def m_L48_awake : Bool := true
noncomputable def m_colorspec_Same_1 (a0 a1 : Rows) : Bool :=
 bif (pre_slices_Equal_int_int a0 a1) then
 let c1 : Bool := (m_slices_Equal_int_int a0 a1)
 c1
 else default
noncomputable def pre_colorspec_Same_1 (a0 a1 : Rows) : Bool :=
 bif (pre_slices_Equal_int_int a0 a1) then
 true
 else false
noncomputable def m_colorspec_Same (a0 a1 : SColor) : Bool :=
 bif ((a0.Space == a1.Space) == true) then
 bif (pre_slices_Equal_int_int a0.Roles a1.Roles) then
 let c1 : Bool := (m_slices_Equal_int_int a0.Roles a1.Roles)
 bif (c1 == true) then
 bif (pre_slices_EqualFunc_int_int_int_int a0.Palette a1.Palette) then
 let c2 : Bool := (m_slices_EqualFunc_int_int_int_int a0.Palette a1.Palette)
 c2
 else default
 else
 false
 else default
 else
 false
noncomputable def pre_colorspec_Same (a0 a1 : SColor) : Bool :=
 bif ((a0.Space == a1.Space) == true) then
 bif (pre_slices_Equal_int_int a0.Roles a1.Roles) then
 let c1 : Bool := (m_slices_Equal_int_int a0.Roles a1.Roles)
 bif (c1 == true) then
 bif (pre_slices_EqualFunc_int_int_int_int a0.Palette a1.Palette) then
 true
 else false
 else
 true
 else false
 else
 true
def metaEq (s t : SMeta) : Bool := (ByteArray.toList s.Key == ByteArray.toList t.Key) && ((ByteArray.toList s.Value == ByteArray.toList t.Value) && true)
def eqM (a b : Rows) : Bool := ((a.length : Int) == (b.length : Int)) && (rngI 0 (a.length : Int)).all fun i => metaEq (SMeta.of (List.getD a i.toNat [])) (SMeta.of (List.getD b i.toNat []))
def m_R47_Same (a b : Rows) : Bool := eqM a b
def pre_R47_Same (a b : Rows) : Bool := lenOK a
def m_file_Same (a b : SFile) : Bool := m_colorspec_Same a.Color b.Color && eqM a.Meta b.Meta && (ByteArray.toList (bytesOfRows a.Stream) == ByteArray.toList (bytesOfRows b.Stream))
def pre_file_Same (a b : SFile) : Bool := lenOK a.Color.Roles && palOK a.Color.Palette && lenOK a.Meta
def m_R46_sameInts (a b : Rows) : Bool := eqI a b
def pre_R46_sameInts (a b : Rows) : Bool := lenOK a
def m_R46_Same (a b : SColor) : Bool := (a.Space == b.Space) && eqI a.Roles b.Roles && eqP a.Palette b.Palette
def pre_R46_Same (a b : SColor) : Bool := lenOK a.Roles && palOK a.Palette
noncomputable def m_R27_SameBytes (a0 a1 : Rows) : Bool :=
 let b1 : Bool := (ByteArray.toList (bytesOfRows a0) == ByteArray.toList (bytesOfRows a1))
 b1
noncomputable def m_R48_Same (a0 a1 : SFile) : Bool :=
 bif (pre_R46_Same a0.Color a1.Color) then
 let c1 : Bool := (m_R46_Same a0.Color a1.Color)
 bif (c1 == true) then
 bif (pre_R47_Same a0.Meta a1.Meta) then
 let c2 : Bool := (m_R47_Same a0.Meta a1.Meta)
 bif (c2 == true) then
 let c3 : Bool := (m_R27_SameBytes a0.Stream a1.Stream)
 c3
 else
 false
 else default
 else
 false
 else default
noncomputable def pre_R48_Same (a0 a1 : SFile) : Bool :=
 bif (pre_R46_Same a0.Color a1.Color) then
 let c1 : Bool := (m_R46_Same a0.Color a1.Color)
 bif (c1 == true) then
 bif (pre_R47_Same a0.Meta a1.Meta) then
 let c2 : Bool := (m_R47_Same a0.Meta a1.Meta)
 bif (c2 == true) then
 true
 else
 true
 else false
 else
 true
 else false
def m_L48_FileSame (a b : SFile) : Bool := true
def pre_L48_FileSame (a b : SFile) : Bool := u8All a.Stream && u8All b.Stream
end Go.Vm
