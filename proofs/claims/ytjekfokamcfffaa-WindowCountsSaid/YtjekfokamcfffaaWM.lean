import Derived.Test.YtjekfokamcfffaaVmFor
import Derived.Test.YtjekfokamcfffaaProg
set_option linter.unusedVariables false
set_option linter.unusedSimpArgs false
set_option maxRecDepth 100000
noncomputable section
namespace Go.Vm
open Go.Proofs
variable {R : Type}
abbrev Rows := List (List V)
def unds : Nat -> List T -> List T
  | 0, l => l
  | n + 1, l => .undef :: unds n l
structure SRect where
  X0 : Int
  Y0 : Int
  X1 : Int
  Y1 : Int
abbrev SRect.sh : List CK := [.int .i64, .int .i64, .int .i64, .int .i64]
abbrev SRect.ts : List T := [.int .i64, .int .i64, .int .i64, .int .i64]
def SRect.row (s : SRect) : List V := [.int .i64 s.X0, .int .i64 s.Y0, .int .i64 s.X1, .int .i64 s.Y1]
def SRect.v (s : SRect) : V := .agg s.row
def SRect.of (w : List V) : SRect := ⟨V.toInt (List.getD w 0 V.undef), V.toInt (List.getD w 1 V.undef), V.toInt (List.getD w 2 V.undef), V.toInt (List.getD w 3 V.undef)⟩
instance : Inhabited SRect := ⟨SRect.of []⟩
structure SComponent where
  Depth : Int
  Signed : Bool
  DX : Int
  DY : Int
abbrev SComponent.sh : List CK := [.int .i64, .bool, .int .i64, .int .i64]
abbrev SComponent.ts : List T := [.int .i64, .bool, .int .i64, .int .i64]
def SComponent.row (s : SComponent) : List V := [.int .i64 s.Depth, .bool s.Signed, .int .i64 s.DX, .int .i64 s.DY]
def SComponent.v (s : SComponent) : V := .agg s.row
def SComponent.of (w : List V) : SComponent := ⟨V.toInt (List.getD w 0 V.undef), V.toBool (List.getD w 1 V.undef), V.toInt (List.getD w 2 V.undef), V.toInt (List.getD w 3 V.undef)⟩
instance : Inhabited SComponent := ⟨SComponent.of []⟩
structure SHeader where
  Area : SRect
  TileW : Int
  TileH : Int
  Components : Rows
abbrev SHeader.sh : List CK := [.int .i64, .int .i64, .int .i64, .int .i64, .int .i64, .int .i64, .sl SComponent.sh]
abbrev SHeader.ts : List T := [.int .i64, .int .i64, .int .i64, .int .i64, .int .i64, .int .i64, .data SComponent.sh]
def SHeader.row (s : SHeader) : List V := [.int .i64 s.Area.X0, .int .i64 s.Area.Y0, .int .i64 s.Area.X1, .int .i64 s.Area.Y1, .int .i64 s.TileW, .int .i64 s.TileH, .data SComponent.sh s.Components]
def SHeader.v (s : SHeader) : V := .agg s.row
def SHeader.of (w : List V) : SHeader := ⟨⟨V.toInt (List.getD w 0 V.undef), V.toInt (List.getD w 1 V.undef), V.toInt (List.getD w 2 V.undef), V.toInt (List.getD w 3 V.undef)⟩, V.toInt (List.getD w 4 V.undef), V.toInt (List.getD w 5 V.undef), V.toRows (List.getD w 6 V.undef)⟩
instance : Inhabited SHeader := ⟨SHeader.of []⟩
structure SMode where
  Bypass : Bool
  Restart : Bool
  Reset : Bool
  Causal : Bool
  Symbols : Bool
abbrev SMode.sh : List CK := [.bool, .bool, .bool, .bool, .bool]
abbrev SMode.ts : List T := [.bool, .bool, .bool, .bool, .bool]
def SMode.row (s : SMode) : List V := [.bool s.Bypass, .bool s.Restart, .bool s.Reset, .bool s.Causal, .bool s.Symbols]
def SMode.v (s : SMode) : V := .agg s.row
def SMode.of (w : List V) : SMode := ⟨V.toBool (List.getD w 0 V.undef), V.toBool (List.getD w 1 V.undef), V.toBool (List.getD w 2 V.undef), V.toBool (List.getD w 3 V.undef), V.toBool (List.getD w 4 V.undef)⟩
instance : Inhabited SMode := ⟨SMode.of []⟩
structure SSpan where
  From : Int
  To : Int
abbrev SSpan.sh : List CK := [.int .i64, .int .i64]
abbrev SSpan.ts : List T := [.int .i64, .int .i64]
def SSpan.row (s : SSpan) : List V := [.int .i64 s.From, .int .i64 s.To]
def SSpan.v (s : SSpan) : V := .agg s.row
def SSpan.of (w : List V) : SSpan := ⟨V.toInt (List.getD w 0 V.undef), V.toInt (List.getD w 1 V.undef)⟩
instance : Inhabited SSpan := ⟨SSpan.of []⟩
structure SParams where
  Kernel : Int
  Levels : Int
  Color : Int
  BlockX : Int
  BlockY : Int
  Precincts : Rows
  Order : Int
  Layers : Int
  Mode : SMode
  Divide : Bool
  Sync : Bool
  Fence : Bool
  Steps : Rows
  Dead : Int
  Shift : Int
abbrev SParams.sh : List CK := [.int .i64, .int .i64, .int .i64, .int .i64, .int .i64, .sl SSpan.sh, .int .i64, .int .i64, .bool, .bool, .bool, .bool, .bool, .bool, .bool, .bool, .sl [.int .i64], .int .i64, .int .i64]
abbrev SParams.ts : List T := [.int .i64, .int .i64, .int .i64, .int .i64, .int .i64, .data SSpan.sh, .int .i64, .int .i64, .bool, .bool, .bool, .bool, .bool, .bool, .bool, .bool, .data [.int .i64], .int .i64, .int .i64]
def SParams.row (s : SParams) : List V := [.int .i64 s.Kernel, .int .i64 s.Levels, .int .i64 s.Color, .int .i64 s.BlockX, .int .i64 s.BlockY, .data SSpan.sh s.Precincts, .int .i64 s.Order, .int .i64 s.Layers, .bool s.Mode.Bypass, .bool s.Mode.Restart, .bool s.Mode.Reset, .bool s.Mode.Causal, .bool s.Mode.Symbols, .bool s.Divide, .bool s.Sync, .bool s.Fence, .data [.int .i64] s.Steps, .int .i64 s.Dead, .int .i64 s.Shift]
def SParams.v (s : SParams) : V := .agg s.row
def SParams.of (w : List V) : SParams := ⟨V.toInt (List.getD w 0 V.undef), V.toInt (List.getD w 1 V.undef), V.toInt (List.getD w 2 V.undef), V.toInt (List.getD w 3 V.undef), V.toInt (List.getD w 4 V.undef), V.toRows (List.getD w 5 V.undef), V.toInt (List.getD w 6 V.undef), V.toInt (List.getD w 7 V.undef), ⟨V.toBool (List.getD w 8 V.undef), V.toBool (List.getD w 9 V.undef), V.toBool (List.getD w 10 V.undef), V.toBool (List.getD w 11 V.undef), V.toBool (List.getD w 12 V.undef)⟩, V.toBool (List.getD w 13 V.undef), V.toBool (List.getD w 14 V.undef), V.toBool (List.getD w 15 V.undef), V.toRows (List.getD w 16 V.undef), V.toInt (List.getD w 17 V.undef), V.toInt (List.getD w 18 V.undef)⟩
instance : Inhabited SParams := ⟨SParams.of []⟩
structure SL39_Place where
  Header : SHeader
  Params : SParams
  Tile : Int
abbrev SL39_Place.sh : List CK := [.int .i64, .int .i64, .int .i64, .int .i64, .int .i64, .int .i64, .sl SComponent.sh, .int .i64, .int .i64, .int .i64, .int .i64, .int .i64, .sl SSpan.sh, .int .i64, .int .i64, .bool, .bool, .bool, .bool, .bool, .bool, .bool, .bool, .sl [.int .i64], .int .i64, .int .i64, .int .i64]
abbrev SL39_Place.ts : List T := [.int .i64, .int .i64, .int .i64, .int .i64, .int .i64, .int .i64, .data SComponent.sh, .int .i64, .int .i64, .int .i64, .int .i64, .int .i64, .data SSpan.sh, .int .i64, .int .i64, .bool, .bool, .bool, .bool, .bool, .bool, .bool, .bool, .data [.int .i64], .int .i64, .int .i64, .int .i64]
def SL39_Place.row (s : SL39_Place) : List V := [.int .i64 s.Header.Area.X0, .int .i64 s.Header.Area.Y0, .int .i64 s.Header.Area.X1, .int .i64 s.Header.Area.Y1, .int .i64 s.Header.TileW, .int .i64 s.Header.TileH, .data SComponent.sh s.Header.Components, .int .i64 s.Params.Kernel, .int .i64 s.Params.Levels, .int .i64 s.Params.Color, .int .i64 s.Params.BlockX, .int .i64 s.Params.BlockY, .data SSpan.sh s.Params.Precincts, .int .i64 s.Params.Order, .int .i64 s.Params.Layers, .bool s.Params.Mode.Bypass, .bool s.Params.Mode.Restart, .bool s.Params.Mode.Reset, .bool s.Params.Mode.Causal, .bool s.Params.Mode.Symbols, .bool s.Params.Divide, .bool s.Params.Sync, .bool s.Params.Fence, .data [.int .i64] s.Params.Steps, .int .i64 s.Params.Dead, .int .i64 s.Params.Shift, .int .i64 s.Tile]
def SL39_Place.v (s : SL39_Place) : V := .agg s.row
def SL39_Place.of (w : List V) : SL39_Place := ⟨⟨⟨V.toInt (List.getD w 0 V.undef), V.toInt (List.getD w 1 V.undef), V.toInt (List.getD w 2 V.undef), V.toInt (List.getD w 3 V.undef)⟩, V.toInt (List.getD w 4 V.undef), V.toInt (List.getD w 5 V.undef), V.toRows (List.getD w 6 V.undef)⟩, ⟨V.toInt (List.getD w 7 V.undef), V.toInt (List.getD w 8 V.undef), V.toInt (List.getD w 9 V.undef), V.toInt (List.getD w 10 V.undef), V.toInt (List.getD w 11 V.undef), V.toRows (List.getD w 12 V.undef), V.toInt (List.getD w 13 V.undef), V.toInt (List.getD w 14 V.undef), ⟨V.toBool (List.getD w 15 V.undef), V.toBool (List.getD w 16 V.undef), V.toBool (List.getD w 17 V.undef), V.toBool (List.getD w 18 V.undef), V.toBool (List.getD w 19 V.undef)⟩, V.toBool (List.getD w 20 V.undef), V.toBool (List.getD w 21 V.undef), V.toBool (List.getD w 22 V.undef), V.toRows (List.getD w 23 V.undef), V.toInt (List.getD w 24 V.undef), V.toInt (List.getD w 25 V.undef)⟩, V.toInt (List.getD w 26 V.undef)⟩
instance : Inhabited SL39_Place := ⟨SL39_Place.of []⟩
structure SView where
  Layers : Int
  Drop : Int
  Window : SRect
abbrev SView.sh : List CK := [.int .i64, .int .i64, .int .i64, .int .i64, .int .i64, .int .i64]
abbrev SView.ts : List T := [.int .i64, .int .i64, .int .i64, .int .i64, .int .i64, .int .i64]
def SView.row (s : SView) : List V := [.int .i64 s.Layers, .int .i64 s.Drop, .int .i64 s.Window.X0, .int .i64 s.Window.Y0, .int .i64 s.Window.X1, .int .i64 s.Window.Y1]
def SView.v (s : SView) : V := .agg s.row
def SView.of (w : List V) : SView := ⟨V.toInt (List.getD w 0 V.undef), V.toInt (List.getD w 1 V.undef), ⟨V.toInt (List.getD w 2 V.undef), V.toInt (List.getD w 3 V.undef), V.toInt (List.getD w 4 V.undef), V.toInt (List.getD w 5 V.undef)⟩⟩
instance : Inhabited SView := ⟨SView.of []⟩
structure SBlockID where
  Comp : Int
  Res : Int
  Band : Int
  Precinct : Int
  Index : Int
  Rect : SRect
abbrev SBlockID.sh : List CK := [.int .i64, .int .i64, .int .i64, .int .i64, .int .i64, .int .i64, .int .i64, .int .i64, .int .i64]
abbrev SBlockID.ts : List T := [.int .i64, .int .i64, .int .i64, .int .i64, .int .i64, .int .i64, .int .i64, .int .i64, .int .i64]
def SBlockID.row (s : SBlockID) : List V := [.int .i64 s.Comp, .int .i64 s.Res, .int .i64 s.Band, .int .i64 s.Precinct, .int .i64 s.Index, .int .i64 s.Rect.X0, .int .i64 s.Rect.Y0, .int .i64 s.Rect.X1, .int .i64 s.Rect.Y1]
def SBlockID.v (s : SBlockID) : V := .agg s.row
def SBlockID.of (w : List V) : SBlockID := ⟨V.toInt (List.getD w 0 V.undef), V.toInt (List.getD w 1 V.undef), V.toInt (List.getD w 2 V.undef), V.toInt (List.getD w 3 V.undef), V.toInt (List.getD w 4 V.undef), ⟨V.toInt (List.getD w 5 V.undef), V.toInt (List.getD w 6 V.undef), V.toInt (List.getD w 7 V.undef), V.toInt (List.getD w 8 V.undef)⟩⟩
instance : Inhabited SBlockID := ⟨SBlockID.of []⟩
structure SPacketID where
  Comp : Int
  Res : Int
  Precinct : Int
  Layer : Int
abbrev SPacketID.sh : List CK := [.int .i64, .int .i64, .int .i64, .int .i64]
abbrev SPacketID.ts : List T := [.int .i64, .int .i64, .int .i64, .int .i64]
def SPacketID.row (s : SPacketID) : List V := [.int .i64 s.Comp, .int .i64 s.Res, .int .i64 s.Precinct, .int .i64 s.Layer]
def SPacketID.v (s : SPacketID) : V := .agg s.row
def SPacketID.of (w : List V) : SPacketID := ⟨V.toInt (List.getD w 0 V.undef), V.toInt (List.getD w 1 V.undef), V.toInt (List.getD w 2 V.undef), V.toInt (List.getD w 3 V.undef)⟩
instance : Inhabited SPacketID := ⟨SPacketID.of []⟩
structure SA4_Rect where
  e0 : SRect
  e1 : SRect
  e2 : SRect
  e3 : SRect
abbrev SA4_Rect.sh : List CK := [.int .i64, .int .i64, .int .i64, .int .i64, .int .i64, .int .i64, .int .i64, .int .i64, .int .i64, .int .i64, .int .i64, .int .i64, .int .i64, .int .i64, .int .i64, .int .i64]
abbrev SA4_Rect.ts : List T := [.int .i64, .int .i64, .int .i64, .int .i64, .int .i64, .int .i64, .int .i64, .int .i64, .int .i64, .int .i64, .int .i64, .int .i64, .int .i64, .int .i64, .int .i64, .int .i64]
def SA4_Rect.row (s : SA4_Rect) : List V := [.int .i64 s.e0.X0, .int .i64 s.e0.Y0, .int .i64 s.e0.X1, .int .i64 s.e0.Y1, .int .i64 s.e1.X0, .int .i64 s.e1.Y0, .int .i64 s.e1.X1, .int .i64 s.e1.Y1, .int .i64 s.e2.X0, .int .i64 s.e2.Y0, .int .i64 s.e2.X1, .int .i64 s.e2.Y1, .int .i64 s.e3.X0, .int .i64 s.e3.Y0, .int .i64 s.e3.X1, .int .i64 s.e3.Y1]
def SA4_Rect.v (s : SA4_Rect) : V := .agg s.row
def SA4_Rect.of (w : List V) : SA4_Rect := ⟨⟨V.toInt (List.getD w 0 V.undef), V.toInt (List.getD w 1 V.undef), V.toInt (List.getD w 2 V.undef), V.toInt (List.getD w 3 V.undef)⟩, ⟨V.toInt (List.getD w 4 V.undef), V.toInt (List.getD w 5 V.undef), V.toInt (List.getD w 6 V.undef), V.toInt (List.getD w 7 V.undef)⟩, ⟨V.toInt (List.getD w 8 V.undef), V.toInt (List.getD w 9 V.undef), V.toInt (List.getD w 10 V.undef), V.toInt (List.getD w 11 V.undef)⟩, ⟨V.toInt (List.getD w 12 V.undef), V.toInt (List.getD w 13 V.undef), V.toInt (List.getD w 14 V.undef), V.toInt (List.getD w 15 V.undef)⟩⟩
instance : Inhabited SA4_Rect := ⟨SA4_Rect.of []⟩
structure SPoint where
  X : Int
  Y : Int
abbrev SPoint.sh : List CK := [.int .i64, .int .i64]
abbrev SPoint.ts : List T := [.int .i64, .int .i64]
def SPoint.row (s : SPoint) : List V := [.int .i64 s.X, .int .i64 s.Y]
def SPoint.v (s : SPoint) : V := .agg s.row
def SPoint.of (w : List V) : SPoint := ⟨V.toInt (List.getD w 0 V.undef), V.toInt (List.getD w 1 V.undef)⟩
instance : Inhabited SPoint := ⟨SPoint.of []⟩
structure Slayout_part where
  cols : Int
  rows : Int
  blocks : Rows
abbrev Slayout_part.sh : List CK := [.int .i64, .int .i64, .sl SRect.sh]
abbrev Slayout_part.ts : List T := [.int .i64, .int .i64, .data SRect.sh]
def Slayout_part.row (s : Slayout_part) : List V := [.int .i64 s.cols, .int .i64 s.rows, .data SRect.sh s.blocks]
def Slayout_part.v (s : Slayout_part) : V := .agg s.row
def Slayout_part.of (w : List V) : Slayout_part := ⟨V.toInt (List.getD w 0 V.undef), V.toInt (List.getD w 1 V.undef), V.toRows (List.getD w 2 V.undef)⟩
instance : Inhabited Slayout_part := ⟨Slayout_part.of []⟩
abbrev ty_api_BlockID : TypeId := 71
abbrev ty_int : TypeId := 3
abbrev ty_map_api_BlockID_int : TypeId := 68
noncomputable def m_H8 (a : SRect) : Bool := let b : Bool := (bif (decide (a.X0 >= a.X1)) then true else (decide (a.Y0 >= a.Y1))); b
noncomputable def m_I4 (a : SRect) : Bool := let b := decide (0 <= a.X0); let c : Bool := (bif b then (decide (a.X0 <= a.X1)) else false); let d := decide (a.X1 <= 4096); let e : Bool := (bif c then d else false); let f := decide (0 <= a.Y0); let g : Bool := (bif e then f else false); let i : Bool := (bif g then (decide (a.Y0 <= a.Y1)) else false); let j := decide (a.Y1 <= 4096); let m : Bool := (bif i then j else false); m
noncomputable def m_K0 (a b c : Int) : Bool := let d : Bool := (bif (decide (b <= a)) then (decide (a <= c)) else false); d
noncomputable def m_F9 (b a : Int) : Int := let d := decide (a < 1); bif d then 0 else bif (a != 0) then let c := IntKind.wrap .i64 (Int.tdiv b a); bif (a != 0) then let e := decide ((Int.tmod b a) > 0); bif e then let f := IntKind.wrap .i64 (c + 1); f else c else default else default
noncomputable def pre_F9 (b a : Int) : Bool := let c := decide (a < 1); bif c then true else bif (a != 0) then bif (a != 0) then let d := decide ((Int.tmod b a) > 0); bif d then true else true else false else false
noncomputable def m_H0 (a : SRect) (b c : Int) : SRect := let d := m_I4 a; let e := decide (b < 1); let f : Bool := (bif (!d) then true else e); let g := decide (b > 4096); let i : Bool := (bif f then true else g); let j := decide (c < 1); let m : Bool := (bif i then true else j); let o := decide (c > 4096); let p : Bool := (bif m then true else o); bif p then (SRect.mk 0 0 0 0) else let q := m_F9 a.X0 b; let r := m_F9 a.Y0 c; let s := m_F9 a.X1 b; let t := m_F9 a.Y1 c; (SRect.mk q r s t)
noncomputable def m_E6 (b a : Int) : Int := let d := decide (a < 1); bif d then 0 else bif (a != 0) then let c := IntKind.wrap .i64 (Int.tdiv b a); bif (a != 0) then let e := decide ((Int.tmod b a) < 0); bif e then let f := IntKind.wrap .i64 (c - 1); f else c else default else default
noncomputable def pre_E6 (b a : Int) : Bool := let c := decide (a < 1); bif c then true else bif (a != 0) then bif (a != 0) then let d := decide ((Int.tmod b a) < 0); bif d then true else true else false else false
noncomputable def m_H6 (a : SHeader) : Int := let b := m_F9 a.Area.X1 a.TileW; let c := m_E6 a.Area.X0 a.TileW; let d := IntKind.wrap .i64 (b - c); let e := m_F9 a.Area.Y1 a.TileH; let f := m_E6 a.Area.Y0 a.TileH; let g := IntKind.wrap .i64 (e - f); let i := IntKind.wrap .i64 (d * g); i
noncomputable def m_J6 (a : SRect) : Int := let b := m_I4 a; bif (!b) then 0 else let c := IntKind.wrap .i64 (a.X1 - a.X0); let d := IntKind.wrap .i64 (a.Y1 - a.Y0); let e := IntKind.wrap .i64 (c * d); e
def inB (lo hi x : Int) : Bool := !(bif decide (x < lo) then true else decide (x > hi))
def m_D8 (a b : Int) (c : Rows) : Bool := c.all fun w => inB a b (V.toInt (List.getD w 0 V.undef))
def pre_D8 (b c : Int) (a : Rows) : Bool := Nat.ble a.length 1048576
noncomputable def m_H2 (a : SRect) : Bool := let b : Bool := (bif (decide (a.X0 >= a.X1)) then true else (decide (a.Y0 >= a.Y1))); b
noncomputable def m_H1 (a : SRect) : Bool := let b := decide (0 <= a.X0); let c : Bool := (bif b then (decide (a.X0 <= a.X1)) else false); let d := decide (a.X1 <= 4096); let e : Bool := (bif c then d else false); let f := decide (0 <= a.Y0); let g : Bool := (bif e then f else false); let i : Bool := (bif g then (decide (a.Y0 <= a.Y1)) else false); let j := decide (a.Y1 <= 4096); let m : Bool := (bif i then j else false); m
noncomputable def m_E3 (b a : Int) : Int := let d := decide (a < 1); bif d then 0 else bif (a != 0) then let c := IntKind.wrap .i64 (Int.tdiv b a); bif (a != 0) then let e := decide ((Int.tmod b a) > 0); bif e then let f := IntKind.wrap .i64 (c + 1); f else c else default else default
noncomputable def pre_E3 (b a : Int) : Bool := let c := decide (a < 1); bif c then true else bif (a != 0) then bif (a != 0) then let d := decide ((Int.tmod b a) > 0); bif d then true else true else false else false
noncomputable def m_F4 (a : SRect) (b c : Int) : SRect := let d := m_H1 a; let e := decide (b < 1); let f : Bool := (bif (!d) then true else e); let g := decide (b > 4096); let i : Bool := (bif f then true else g); let j := decide (c < 1); let m : Bool := (bif i then true else j); let o := decide (c > 4096); let p : Bool := (bif m then true else o); bif p then (SRect.mk 0 0 0 0) else let q := m_E3 a.X0 b; let r := m_E3 a.Y0 c; let s := m_E3 a.X1 b; let t := m_E3 a.Y1 c; (SRect.mk q r s t)
noncomputable def m_H9 (a : SRect) : Int := let b := m_H1 a; bif (!b) then 0 else let c := IntKind.wrap .i64 (a.X1 - a.X0); let d := IntKind.wrap .i64 (a.Y1 - a.Y0); let e := IntKind.wrap .i64 (c * d); e
noncomputable def m_D1 (b a : Int) : Int := let d := decide (a < 1); bif d then 0 else bif (a != 0) then let c := IntKind.wrap .i64 (Int.tdiv b a); bif (a != 0) then let e := decide ((Int.tmod b a) < 0); bif e then let f := IntKind.wrap .i64 (c - 1); f else c else default else default
noncomputable def pre_D1 (b a : Int) : Bool := let c := decide (a < 1); bif c then true else bif (a != 0) then bif (a != 0) then let d := decide ((Int.tmod b a) < 0); bif d then true else true else false else false
def compOK (a : SRect) (w : List V) : Bool := inB 1 16 (SComponent.of w).Depth && inB 1 4 (SComponent.of w).DX && inB 1 4 (SComponent.of w).DY && !m_H2 (m_F4 a (SComponent.of w).DX (SComponent.of w).DY)
def compFits (a : SRect) (w : List V) : Bool := !decide (m_H9 (m_F4 a (SComponent.of w).DX (SComponent.of w).DY) > 1048576)
def nTiles (h : SHeader) : Int := IntKind.wrap .i64 (IntKind.wrap .i64 (m_E3 h.Area.X1 h.TileW - m_D1 h.Area.X0 h.TileW) * IntKind.wrap .i64 (m_E3 h.Area.Y1 h.TileH - m_D1 h.Area.Y0 h.TileH))
def headOK (h : SHeader) : Bool := m_H1 h.Area && !m_H2 h.Area && inB 1 4096 h.TileW && inB 1 4096 h.TileH && inB 1 4 (h.Components.length : Int)
def m_C9 (h : SHeader) : Int :=
  bif headOK h && h.Components.all (compOK h.Area) then
    (bif decide (nTiles h > 1024) then 5 else bif h.Components.all (compFits h.Area) then 0 else 5)
  else 12
def m_H4 (h : SHeader) : Int := m_C9 h
noncomputable def m_E0 (a b : SRect) : SRect := let c : Int := (bif (decide (b.X0 > a.X0)) then b.X0 else a.X0); let d : Int := (bif (decide (b.Y0 > a.Y0)) then b.Y0 else a.Y0); let e : Int := (bif (decide (b.X1 < a.X1)) then b.X1 else a.X1); let f : Int := (bif (decide (b.Y1 < a.Y1)) then b.Y1 else a.Y1); let g := m_H8 (SRect.mk c d e f); bif g then (SRect.mk 0 0 0 0) else (SRect.mk c d e f)
noncomputable def m_C6 (a b : SRect) : SRect := let c : Int := (bif (decide (b.X0 > a.X0)) then b.X0 else a.X0); let d : Int := (bif (decide (b.Y0 > a.Y0)) then b.Y0 else a.Y0); let e : Int := (bif (decide (b.X1 < a.X1)) then b.X1 else a.X1); let f : Int := (bif (decide (b.Y1 < a.Y1)) then b.Y1 else a.Y1); let g := m_H2 (SRect.mk c d e f); bif g then (SRect.mk 0 0 0 0) else (SRect.mk c d e f)
def cellOf (r : SRect) (w h j i : Int) : SRect := m_C6 r ⟨IntKind.wrap .i64 (i * w), IntKind.wrap .i64 (j * h), IntKind.wrap .i64 (IntKind.wrap .i64 (i + 1) * w), IntKind.wrap .i64 (IntKind.wrap .i64 (j + 1) * h)⟩
def cellsOK (r : SRect) (w h : Int) : Bool := m_H1 r && !m_H2 r && !decide (w < 1) && !decide (h < 1) && !decide (IntKind.wrap .i64 (IntKind.wrap .i64 (m_E3 r.X1 w - m_D1 r.X0 w) * IntKind.wrap .i64 (m_E3 r.Y1 h - m_D1 r.Y0 h)) > 65536)
def cellsL (r : SRect) (w h : Int) : List SRect := bif cellsOK r w h then
    (rngI (m_D1 r.Y0 h) (m_E3 r.Y1 h)).flatMap fun j => (rngI (m_D1 r.X0 w) (m_E3 r.X1 w)).map fun i => cellOf r w h j i
  else []
def m_G5 (r : SRect) (w h : Int) : Rows := (cellsL r w h).map SRect.row
def m_H5 (r : SRect) (w h : Int) : Rows := m_G5 r w h
noncomputable def m_I3 (a : SHeader) : Rows := let b := m_H4 a; bif (b != 0) then [] else let c := m_H5 a.Area a.TileW a.TileH; c
noncomputable def m_I1 (a : SParams) : Bool := let b := decide (a.Kernel >= 1); let c := decide (a.Kernel <= 3); let d : Bool := (bif b then c else false); let e := decide (a.Color >= 0); let f : Bool := (bif d then e else false); let g := decide (a.Color <= 2); let i : Bool := (bif f then g else false); let j := decide (a.Order >= 1); let m : Bool := (bif i then j else false); let o := decide (a.Order <= 5); let p : Bool := (bif m then o else false); p
def stepsOK (l : Rows) : Bool := l.all fun w => inB 1 65536 (V.toInt (List.getD w 0 V.undef))
def precOK (l : Rows) : Bool := (rngI 0 (l.length : Int)).all fun i => inB (bif decide (1 < i) then 1 else i) 12 (SPoint.of (l.getD i.toNat [])).X && inB (bif decide (1 < i) then 1 else i) 12 (SPoint.of (l.getD i.toNat [])).Y
def numB (p : SParams) : Bool := inB 0 5 p.Levels && inB 2 6 p.BlockX && inB 2 6 p.BlockY && inB 1 16 p.Layers && inB 8 32 p.Dead && inB 0 30 p.Shift && ((p.Steps.length : Int) == 3 * p.Levels + 1) && stepsOK p.Steps && (((p.Precincts.length : Int) == 0) || (((p.Precincts.length : Int) == p.Levels + 1) && precOK p.Precincts))
def compEq (a b : SComponent) : Bool := (a.Depth == b.Depth) && ((a.Signed == b.Signed) && ((a.DX == b.DX) && ((a.DY == b.DY) && true)))
def colorB (h : SHeader) (p : SParams) : Bool := (p.Color == 0) || (decide ((h.Components.length : Int) >= 3) && compEq (SComponent.of (h.Components.getD 0 [])) (SComponent.of (h.Components.getD 1 [])) && compEq (SComponent.of (h.Components.getD 0 [])) (SComponent.of (h.Components.getD 2 [])))
def m_C5 (h : SHeader) (p : SParams) : Bool := numB p && colorB h p
def m_G0 (p : SParams) : Bool := numB p
noncomputable def m_I0 (a : Int) : Int := let b := decide (a < 0); let c := decide (a > 5); let d : Bool := (bif b then true else c); bif d then 0 else let e := IntKind.wrap .i64 (3 * a); let f := IntKind.wrap .i64 (e + 1); f
noncomputable def m_A4 (a : Int) : Bool := let b := decide (a >= 0); let c := decide (a <= 5); let d : Bool := (bif b then c else false); d
noncomputable def m_A6 (e : SRect) (a b : Int) : SRect := let f := m_A4 a; let g := decide (b < 0); let i : Bool := (bif (!f) then true else g); let j : Bool := (bif i then true else (decide (b > a))); bif j then (SRect.mk 0 0 0 0) else let c := IntKind.wrap .i64 (a - b); bif (decide (0 <= (IntKind.wrap .u64 c))) then let d := IntKind.wrap .i64 (1 * 2 ^ (min (Int.toNat (IntKind.wrap .u64 c)) 64)); let m := m_F4 e d d; m else default
noncomputable def pre_A6 (i : SRect) (a b : Int) : Bool := let c := m_A4 a; let d := decide (b < 0); let e : Bool := (bif (!c) then true else d); let f : Bool := (bif e then true else (decide (b > a))); bif f then true else let g := IntKind.wrap .i64 (a - b); bif (decide (0 <= (IntKind.wrap .u64 g))) then true else false
def m_C1 (r : SRect) (l i : Int) : SRect := m_A6 r l i
noncomputable def m_E5 (a : SParams) (b : Int) : SPoint := let c := decide (b < 0); let d := decide (b > a.Levels); let e : Bool := (bif c then true else d); bif e then (SPoint.mk 0 0) else let f := (((List.length a.Precincts) : Nat) : Int); bif (f == 0) then (SPoint.mk 12 12) else let g := (((List.length a.Precincts) : Nat) : Int); bif (decide (b >= g)) then (SPoint.mk 0 0) else bif (inR b (List.length a.Precincts)) then let i := List.getD a.Precincts (Int.toNat b) []; let j := SPoint.of i; j else default
noncomputable def pre_E5 (a : SParams) (b : Int) : Bool := let c := decide (b < 0); let d := decide (b > a.Levels); let e : Bool := (bif c then true else d); bif e then true else let f := (((List.length a.Precincts) : Nat) : Int); bif (f == 0) then true else let g := (((List.length a.Precincts) : Nat) : Int); bif (decide (b >= g)) then true else bif (inR b (List.length a.Precincts)) then true else false
noncomputable def m_J7 (a : SRect) (b c : Int) : Int := let d := m_H8 a; bif d then 0 else bif (decide (0 <= b)) then let e := IntKind.wrap .i64 (1 * 2 ^ (min (Int.toNat b) 64)); let f := m_F9 a.X1 e; bif (decide (0 <= b)) then let g := IntKind.wrap .i64 (1 * 2 ^ (min (Int.toNat b) 64)); let i := m_E6 a.X0 g; let j := IntKind.wrap .i64 (f - i); bif (decide (0 <= c)) then let m := IntKind.wrap .i64 (1 * 2 ^ (min (Int.toNat c) 64)); let o := m_F9 a.Y1 m; bif (decide (0 <= c)) then let p := IntKind.wrap .i64 (1 * 2 ^ (min (Int.toNat c) 64)); let q := m_E6 a.Y0 p; let r := IntKind.wrap .i64 (o - q); let s := IntKind.wrap .i64 (j * r); s else default else default else default else default
noncomputable def pre_J7 (c : SRect) (a b : Int) : Bool := let d := m_H8 c; bif d then true else bif (decide (0 <= a)) then bif (decide (0 <= a)) then bif (decide (0 <= b)) then bif (decide (0 <= b)) then true else false else false else false else false
noncomputable def m_B4 (b a : Int) : Rows := let c := m_A4 b; let d := decide (a < 0); let e : Bool := (bif (!c) then true else d); let f : Bool := (bif e then true else (decide (a > b))); bif f then [] else bif (a == 0) then [[(V.int .i64 0)]] else let g := IntKind.wrap .i64 (3 * a); let i := IntKind.wrap .i64 (g - 2); let j := IntKind.wrap .i64 (3 * a); let m := IntKind.wrap .i64 (j - 1); let o := IntKind.wrap .i64 (3 * a); [[V.int .i64 i], [V.int .i64 m], [V.int .i64 o]]
noncomputable def m_E4 (a : SRect) (b c : Int) : Int := let f := m_H2 a; bif f then 0 else bif (decide (0 <= (IntKind.wrap .u64 b))) then let d := IntKind.wrap .i64 (1 * 2 ^ (min (Int.toNat (IntKind.wrap .u64 b)) 64)); bif (decide (0 <= (IntKind.wrap .u64 c))) then let e := IntKind.wrap .i64 (1 * 2 ^ (min (Int.toNat (IntKind.wrap .u64 c)) 64)); let g := m_E3 a.X1 d; let i := m_D1 a.X0 d; let j := IntKind.wrap .i64 (g - i); let m := m_E3 a.Y1 e; let o := m_D1 a.Y0 e; let p := IntKind.wrap .i64 (m - o); let q := IntKind.wrap .i64 (j * p); q else default else default
noncomputable def pre_E4 (a : SRect) (b c : Int) : Bool := let d := m_H2 a; bif d then true else bif (decide (0 <= (IntKind.wrap .u64 b))) then bif (decide (0 <= (IntKind.wrap .u64 c))) then true else false else false
noncomputable def m_D9 (a : Int) : Int := let b := m_A4 a; bif (!b) then 0 else let c := IntKind.wrap .i64 (3 * a); let d := IntKind.wrap .i64 (c + 1); d
noncomputable def m_D6 (a b : Int) : Int × Int × Bool := let d := decide (a < 0); bif (d == false) then let e := m_D9 b; bif (decide (a >= e)) then (0, 0, false) else bif (a == 0) then (b, 0, true) else let f := IntKind.wrap .i64 (a + 2); let c := IntKind.wrap .i64 (Int.tdiv f 3); let g := IntKind.wrap .i64 (b - c); let i := IntKind.wrap .i64 (g + 1); let j := IntKind.wrap .i64 (3 * c); let m := IntKind.wrap .i64 (a - j); let o := IntKind.wrap .i64 (m + 3); (i, o, true) else (0, 0, false)
noncomputable def m_J1 (a : SRect) : SA4_Rect := let f := m_H1 a; bif (!f) then (SA4_Rect.mk (SRect.mk 0 0 0 0) (SRect.mk 0 0 0 0) (SRect.mk 0 0 0 0) (SRect.mk 0 0 0 0)) else let g := intBits .and .i64 0 1; let b := IntKind.wrap .i64 (1 - g); let i := IntKind.wrap .i64 (a.X0 + b); let j := IntKind.wrap .i64 (Int.tdiv i 2); let m := IntKind.wrap .i64 (a.Y0 + 1); let o := IntKind.wrap .i64 (Int.tdiv m 2); let p := IntKind.wrap .i64 (a.X1 + b); let q := IntKind.wrap .i64 (Int.tdiv p 2); let r := IntKind.wrap .i64 (a.Y1 + 1); let s := IntKind.wrap .i64 (Int.tdiv r 2); let t := intBits .and .i64 1 1; let c := IntKind.wrap .i64 (1 - t); let u := IntKind.wrap .i64 (a.X0 + c); let v := IntKind.wrap .i64 (Int.tdiv u 2); let w := IntKind.wrap .i64 (a.Y0 + 1); let y := IntKind.wrap .i64 (Int.tdiv w 2); let z := IntKind.wrap .i64 (a.X1 + c); let A := IntKind.wrap .i64 (Int.tdiv z 2); let B := IntKind.wrap .i64 (a.Y1 + 1); let D := IntKind.wrap .i64 (Int.tdiv B 2); let E := intBits .and .i64 2 1; let d := IntKind.wrap .i64 (1 - E); let F := IntKind.wrap .i64 (a.X0 + d); let H := IntKind.wrap .i64 (Int.tdiv F 2); let I := IntKind.wrap .i64 (a.Y0 + 0); let J := IntKind.wrap .i64 (Int.tdiv I 2); let K := IntKind.wrap .i64 (a.X1 + d); let L := IntKind.wrap .i64 (Int.tdiv K 2); let M := IntKind.wrap .i64 (a.Y1 + 0); let N := IntKind.wrap .i64 (Int.tdiv M 2); let O := intBits .and .i64 3 1; let e := IntKind.wrap .i64 (1 - O); let Q := IntKind.wrap .i64 (a.X0 + e); let S := IntKind.wrap .i64 (Int.tdiv Q 2); let U := IntKind.wrap .i64 (a.Y0 + 0); let W := IntKind.wrap .i64 (Int.tdiv U 2); let X := IntKind.wrap .i64 (a.X1 + e); let Y := IntKind.wrap .i64 (Int.tdiv X 2); let Z := IntKind.wrap .i64 (a.Y1 + 0); let a0 := IntKind.wrap .i64 (Int.tdiv Z 2); (SA4_Rect.mk (SRect.mk j o q s) (SRect.mk v y A D) (SRect.mk H J L N) (SRect.mk S W Y a0))
noncomputable def m_F1 (d : SRect) (c e : Int) : SRect := let b := m_D6 e c; bif ((!b.2.2) == false) then let f := m_H1 d; bif (!f) then (SRect.mk 0 0 0 0) else bif (e == 0) then let g := m_A6 d c 0; g else let i := IntKind.wrap .i64 (c - b.1); let j := IntKind.wrap .i64 (i + 1); let m := m_A6 d c j; let a := m_J1 m; bif (true && (inR b.2.1 (4 : Nat))) then let o : Int := (bif (decide (b.2.1 = ((0 : Nat) : Int))) then a.e0.X0 else (bif (decide (b.2.1 = ((1 : Nat) : Int))) then a.e1.X0 else (bif (decide (b.2.1 = ((2 : Nat) : Int))) then a.e2.X0 else a.e3.X0))); let p : Int := (bif (decide (b.2.1 = ((0 : Nat) : Int))) then a.e0.Y0 else (bif (decide (b.2.1 = ((1 : Nat) : Int))) then a.e1.Y0 else (bif (decide (b.2.1 = ((2 : Nat) : Int))) then a.e2.Y0 else a.e3.Y0))); let q : Int := (bif (decide (b.2.1 = ((0 : Nat) : Int))) then a.e0.X1 else (bif (decide (b.2.1 = ((1 : Nat) : Int))) then a.e1.X1 else (bif (decide (b.2.1 = ((2 : Nat) : Int))) then a.e2.X1 else a.e3.X1))); let r : Int := (bif (decide (b.2.1 = ((0 : Nat) : Int))) then a.e0.Y1 else (bif (decide (b.2.1 = ((1 : Nat) : Int))) then a.e1.Y1 else (bif (decide (b.2.1 = ((2 : Nat) : Int))) then a.e2.Y1 else a.e3.Y1))); (SRect.mk o p q r) else default else (SRect.mk 0 0 0 0)
noncomputable def pre_F1 (c : SRect) (d a : Int) : Bool := let b := m_D6 a d; bif ((!b.2.2) == false) then let e := m_H1 c; bif (!e) then true else bif (a == 0) then true else bif (true && (inR b.2.1 (4 : Nat))) then true else false else true
noncomputable def m_B5 (a : SParams) (b : Int) : SPoint := let c := decide (b < 0); let d := decide (b > a.Levels); let e : Bool := (bif c then true else d); bif e then (SPoint.mk 0 0) else let f := (((List.length a.Precincts) : Nat) : Int); bif (f == 0) then (SPoint.mk 12 12) else let g := (((List.length a.Precincts) : Nat) : Int); bif (decide (b >= g)) then (SPoint.mk 0 0) else bif (inR b (List.length a.Precincts)) then let i := List.getD a.Precincts (Int.toNat b) []; let j := SPoint.of i; j else default
noncomputable def pre_B5 (a : SParams) (b : Int) : Bool := let c := decide (b < 0); let d := decide (b > a.Levels); let e : Bool := (bif c then true else d); bif e then true else let f := (((List.length a.Precincts) : Nat) : Int); bif (f == 0) then true else let g := (((List.length a.Precincts) : Nat) : Int); bif (decide (b >= g)) then true else bif (inR b (List.length a.Precincts)) then true else false
def tfRes (p : SParams) (r : SRect) (res : Int) : Bool := (m_B4 p.Levels res).all fun w =>
  !decide (m_E4 (m_F1 r p.Levels (V.toInt (List.getD w 0 V.undef)))
    (bif decide ((bif decide (res > 0) then IntKind.wrap .i64 ((m_B5 p res).X - 1) else (m_B5 p res).X) < p.BlockX) then (bif decide (res > 0) then IntKind.wrap .i64 ((m_B5 p res).X - 1) else (m_B5 p res).X) else p.BlockX)
    (bif decide ((bif decide (res > 0) then IntKind.wrap .i64 ((m_B5 p res).Y - 1) else (m_B5 p res).Y) < p.BlockY) then (bif decide (res > 0) then IntKind.wrap .i64 ((m_B5 p res).Y - 1) else (m_B5 p res).Y) else p.BlockY) > 65536)
def tfPk (p : SParams) (r : SRect) (res : Int) : Int := IntKind.wrap .i64 (m_E4 (m_A6 r p.Levels res) (m_B5 p res).X (m_B5 p res).Y * p.Layers)
def compRect (t : SRect) (w : List V) : SRect := m_F4 t (SComponent.of w).DX (SComponent.of w).DY
def m_B9 (h : SHeader) (p : SParams) (t : SRect) : Bool :=
  (h.Components.all fun w => (rngI 0 (p.Levels + 1)).all fun res => tfRes p (compRect t w) res) &&
  decide (h.Components.foldl (fun s w => (rngI 0 (p.Levels + 1)).foldl (fun s res => IntKind.wrap .i64 (s + tfPk p (compRect t w) res)) s) 0 <= 65536)
def pre_B9 (h : SHeader) (p : SParams) (t : SRect) : Bool := Nat.ble h.Components.length 1048576 && decide (p.Levels <= 5)
def m_G1 (h : SHeader) (p : SParams) (t : SRect) : Int :=
  IntKind.wrap .i64 (h.Components.foldl (fun s w => (rngI 0 (p.Levels + 1)).foldl (fun s res => IntKind.wrap .i64 (s + m_J7 (m_A6 (compRect t w) p.Levels res) (m_B5 p res).X (m_B5 p res).Y)) s) 0 * p.Layers)
def pre_G1 (h : SHeader) (p : SParams) (t : SRect) : Bool := Nat.ble h.Components.length 1048576 && decide (p.Levels <= 5) && ((rngI 0 (p.Levels + 1)).all fun res => decide (0 <= (m_B5 p res).X) && decide (0 <= (m_B5 p res).Y))
noncomputable def m_J3 (a : Int) (b : Bool) : Int := bif b then let c := IntKind.wrap .i64 (Int.tdiv a 2); c else let d := IntKind.wrap .i64 (a + 1); let e := IntKind.wrap .i64 (Int.tdiv d 2); e
noncomputable def m_H7 (a : SRect) : SA4_Rect := let b := m_I4 a; bif (!b) then (SA4_Rect.mk (SRect.mk 0 0 0 0) (SRect.mk 0 0 0 0) (SRect.mk 0 0 0 0) (SRect.mk 0 0 0 0)) else let c := m_J3 a.X0 false; let d := m_J3 a.Y0 false; let e := m_J3 a.X1 false; let f := m_J3 a.Y1 false; let g := m_J3 a.X0 true; let i := m_J3 a.Y0 false; let j := m_J3 a.X1 true; let m := m_J3 a.Y1 false; let o := m_J3 a.X0 false; let p := m_J3 a.Y0 true; let q := m_J3 a.X1 false; let r := m_J3 a.Y1 true; let s := m_J3 a.X0 true; let t := m_J3 a.Y0 true; let u := m_J3 a.X1 true; let v := m_J3 a.Y1 true; (SA4_Rect.mk (SRect.mk c d e f) (SRect.mk g i j m) (SRect.mk o p q r) (SRect.mk s t u v))
noncomputable def m_I5 (a b : Int) : Int × Int × Bool := let d := decide (a < 0); bif (d == false) then let e := m_I0 b; bif (decide (a >= e)) then (0, 0, false) else bif (a == 0) then (b, 0, true) else let f := IntKind.wrap .i64 (a + 2); let c := IntKind.wrap .i64 (Int.tdiv f 3); let g := IntKind.wrap .i64 (b - c); let i := IntKind.wrap .i64 (g + 1); let j := IntKind.wrap .i64 (3 * c); let m := IntKind.wrap .i64 (a - j); let o := IntKind.wrap .i64 (m + 3); (i, o, true) else (0, 0, false)
noncomputable def m_J5 (d : SRect) (c e : Int) : SRect := let b := m_I5 e c; bif ((!b.2.2) == false) then let f := m_I4 d; bif (!f) then (SRect.mk 0 0 0 0) else bif (e == 0) then let g := m_C1 d c 0; g else let i := IntKind.wrap .i64 (c - b.1); let j := IntKind.wrap .i64 (i + 1); let m := m_C1 d c j; let a := m_H7 m; bif (true && (inR b.2.1 (4 : Nat))) then let o : Int := (bif (decide (b.2.1 = ((0 : Nat) : Int))) then a.e0.X0 else (bif (decide (b.2.1 = ((1 : Nat) : Int))) then a.e1.X0 else (bif (decide (b.2.1 = ((2 : Nat) : Int))) then a.e2.X0 else a.e3.X0))); let p : Int := (bif (decide (b.2.1 = ((0 : Nat) : Int))) then a.e0.Y0 else (bif (decide (b.2.1 = ((1 : Nat) : Int))) then a.e1.Y0 else (bif (decide (b.2.1 = ((2 : Nat) : Int))) then a.e2.Y0 else a.e3.Y0))); let q : Int := (bif (decide (b.2.1 = ((0 : Nat) : Int))) then a.e0.X1 else (bif (decide (b.2.1 = ((1 : Nat) : Int))) then a.e1.X1 else (bif (decide (b.2.1 = ((2 : Nat) : Int))) then a.e2.X1 else a.e3.X1))); let r : Int := (bif (decide (b.2.1 = ((0 : Nat) : Int))) then a.e0.Y1 else (bif (decide (b.2.1 = ((1 : Nat) : Int))) then a.e1.Y1 else (bif (decide (b.2.1 = ((2 : Nat) : Int))) then a.e2.Y1 else a.e3.Y1))); (SRect.mk o p q r) else default else (SRect.mk 0 0 0 0)
noncomputable def pre_J5 (c : SRect) (d a : Int) : Bool := let b := m_I5 a d; bif ((!b.2.2) == false) then let e := m_I4 c; bif (!e) then true else bif (a == 0) then true else bif (true && (inR b.2.1 (4 : Nat))) then true else false else true
def blX (p : SParams) (i : Int) : Int := (fun x => bif decide (x < p.BlockX) then x else p.BlockX) (IntKind.wrap .i64 ((m_B5 p ((i + 2) / 3)).X - (bif decide (1 < (i + 2) / 3) then 1 else (i + 2) / 3)))
def blY (p : SParams) (i : Int) : Int := (fun x => bif decide (x < p.BlockY) then x else p.BlockY) (IntKind.wrap .i64 ((m_B5 p ((i + 2) / 3)).Y - (bif decide (1 < (i + 2) / 3) then 1 else (i + 2) / 3)))
def m_G8 (h : SHeader) (p : SParams) (t : SRect) : Int :=
  h.Components.foldl (fun s w => (rngI 0 (3 * p.Levels + 1)).foldl (fun s i => (fun c => bif decide (c > s) then c else s) (m_J7 (m_J5 (compRect t w) p.Levels i) (blX p i) (blY p i))) s) 0
def pre_G8 (h : SHeader) (p : SParams) (t : SRect) : Bool := Nat.ble h.Components.length 1048576 && decide (0 <= p.Levels) && decide (p.Levels <= 5) && ((rngI 0 (3 * p.Levels + 1)).all fun i => decide (0 <= blX p i) && decide (0 <= blY p i))
def kindB (p : SParams) : Bool := inB 1 3 p.Kernel && inB 0 2 p.Color && inB 1 5 p.Order
def m_E2 (h : SHeader) (p : SParams) : Int :=
  bif m_C9 h != 0 then m_C9 h
  else bif !kindB p then 3
  else bif !m_C5 h p then 13
  else bif (cellsL h.Area h.TileW h.TileH).all fun t => m_B9 h p t then 0
  else 5
def m_I6 (h : SHeader) (p : SParams) : Int := m_E2 h p
noncomputable def m_D5 (a : SHeader) (d : SParams) (b c : Int) : Bool := let e := m_I6 a d; let f := decide (b >= 0); let g : Bool := (bif (e == 0) then f else false); bif (g == true) then let i := m_I3 a; let j := (((List.length i) : Nat) : Int); let m := decide (c >= 0); let o : Bool := (bif (decide (b < j)) then m else false); bif (o == true) then let p := (((List.length a.Components) : Nat) : Int); (decide (c < p)) else false else false
noncomputable def m_F5 (a : SHeader) (b : SParams) (c : Int) : Int := let f := m_D5 a b c 0; bif (!f) then 0 else let d := m_I3 a; bif (inR c (List.length d)) then let g := List.getD d (Int.toNat c) []; let e := SRect.of g; bif (pre_G1 a b e) then let i := m_G1 a b e; i else default else default
noncomputable def pre_F5 (a : SHeader) (c : SParams) (b : Int) : Bool := let e := m_D5 a c b 0; bif (!e) then true else let d := m_I3 a; bif (inR b (List.length d)) then let f := List.getD d (Int.toNat b) []; let g := SRect.of f; bif (pre_G1 a c g) then true else false else false
noncomputable def m_E7 (a : SHeader) : Rows := let b := m_C9 a; bif (b != 0) then [] else let c := m_G5 a.Area a.TileW a.TileH; c
def m_J9 (h : SHeader) (p : SParams) : Bool :=
  bif decide ((h.Components.length : Int) > 10) || decide ((p.Precincts.length : Int) > 10) || decide ((p.Steps.length : Int) > 40) then false
  else bif m_C9 h != 0 then true
  else bif decide (IntKind.wrap .i64 (h.Area.X1 - h.Area.X0) > 40) || decide (IntKind.wrap .i64 (h.Area.Y1 - h.Area.Y0) > 40) || decide (((m_E7 h).length : Int) > 16) then false
  else bif m_E2 h p != 0 then true
  else (rngI 0 ((m_E7 h).length : Int)).all fun t => !decide (m_F5 h p t > 400)
noncomputable def m_D7 (a : SHeader) (d : SParams) (b c : Int) : Bool := let e := m_E2 a d; let f := decide (b >= 0); let g : Bool := (bif (e == 0) then f else false); bif (g == true) then let i := m_E7 a; let j := (((List.length i) : Nat) : Int); let m := decide (c >= 0); let o : Bool := (bif (decide (b < j)) then m else false); bif (o == true) then let p := (((List.length a.Components) : Nat) : Int); (decide (c < p)) else false else false
noncomputable def m_B0 (a : SHeader) (b c : Int) : SRect := let d := m_E7 a; let f := decide (b < 0); bif (f == false) then let g := (((List.length d) : Nat) : Int); let i := decide (c < 0); let j : Bool := (bif (decide (b >= g)) then true else i); bif (j == false) then let m := (((List.length a.Components) : Nat) : Int); bif (decide (c >= m)) then (SRect.mk 0 0 0 0) else bif (inR c (List.length a.Components)) then let o := List.getD a.Components (Int.toNat c) []; let e := SComponent.of o; bif (inR b (List.length d)) then let p := List.getD d (Int.toNat b) []; let q := SRect.of p; let r := m_F4 q e.DX e.DY; r else default else default else (SRect.mk 0 0 0 0) else (SRect.mk 0 0 0 0)
noncomputable def pre_B0 (a : SHeader) (b c : Int) : Bool := let d := m_E7 a; let e := decide (b < 0); bif (e == false) then let f := (((List.length d) : Nat) : Int); let g := decide (c < 0); let i : Bool := (bif (decide (b >= f)) then true else g); bif (i == false) then let j := (((List.length a.Components) : Nat) : Int); bif (decide (c >= j)) then true else bif (inR c (List.length a.Components)) then bif (inR b (List.length d)) then true else false else false else true else true
noncomputable def m_A5 (a b c : Int) : Bool := let d := decide (a >= 0); let e : Bool := (bif d then (decide (a <= c)) else false); let f := decide (b >= 0); let g : Bool := (bif e then f else false); let i : Bool := (bif g then (decide (b <= c)) else false); i
noncomputable def m_C2 (c d a : Int) : Int × Int := bif (decide (0 <= (IntKind.wrap .u64 a))) then let b := Int.fdiv c (2 ^ (min (Int.toNat (IntKind.wrap .u64 a)) 64)); let e := IntKind.wrap .i64 (d - 1); bif (decide (0 <= (IntKind.wrap .u64 a))) then let f := Int.fdiv e (2 ^ (min (Int.toNat (IntKind.wrap .u64 a)) 64)); let g := IntKind.wrap .i64 (f - b); let i := IntKind.wrap .i64 (g + 1); (b, i) else default else default
noncomputable def pre_C2 (b c a : Int) : Bool := bif (decide (0 <= (IntKind.wrap .u64 a))) then bif (decide (0 <= (IntKind.wrap .u64 a))) then true else false else false
noncomputable def m_C3 (a : SRect) (d e f : Int) : Int × Int × Int × Int := let g := m_H1 a; bif ((!g) == false) then let i := m_H2 a; bif (i == false) then let j := m_A5 d e f; bif (!j) then (0, 0, 0, 0) else let b := m_C2 a.X0 a.X1 d; let c := m_C2 a.Y0 a.Y1 e; let m := IntKind.wrap .i64 (b.2 * c.2); let o := decide (m > 65536); bif o then (0, 0, 0, 0) else (b.1, c.1, b.2, c.2) else (0, 0, 0, 0) else (0, 0, 0, 0)
noncomputable def m_A3 (b : SRect) (c d : Int) : Int × Int := let a := m_C3 b c d 12; (a.2.2.1, a.2.2.2)
noncomputable def m_A8 (c : SHeader) (a : SParams) (d e b : Int) : SRect × Int × Int := let j := m_D7 c a d e; let m := decide (b < 0); let o : Bool := (bif (!j) then true else m); let p := decide (b > a.Levels); let q : Bool := (bif o then true else p); bif q then ((SRect.mk 0 0 0 0), 0, 0) else let r := m_B0 c d e; let f := m_A6 r a.Levels b; let g := m_B5 a b; let i := m_A3 f g.X g.Y; (f, i.1, i.2)
def m_F8 (l : Rows) : Rows := l.flatMap fun w => V.toRows (List.getD w 0 V.undef)
def pre_F8 (l : Rows) : Bool := Nat.ble l.length 1099511627776 && Nat.ble (m_F8 l).length 1099511627776
noncomputable def m_B6 (c : SRect) (d e b : Int) : Int × Int × Bool := let a := m_C3 c d e 12; let f := decide (b < 0); let g := IntKind.wrap .i64 (a.2.2.1 * a.2.2.2); let i : Bool := (bif f then true else (decide (b >= g))); bif i then (0, 0, false) else bif (a.2.2.1 != 0) then let j := IntKind.wrap .i64 (a.1 + (Int.tmod b a.2.2.1)); bif (a.2.2.1 != 0) then let m := IntKind.wrap .i64 (Int.tdiv b a.2.2.1); let o := IntKind.wrap .i64 (a.2.1 + m); (j, o, true) else default else default
noncomputable def pre_B6 (c : SRect) (d e b : Int) : Bool := let a := m_C3 c d e 12; let f := decide (b < 0); let g := IntKind.wrap .i64 (a.2.2.1 * a.2.2.2); let i : Bool := (bif f then true else (decide (b >= g))); bif i then true else bif (a.2.2.1 != 0) then bif (a.2.2.1 != 0) then true else false else false
noncomputable def m_C8 (c d a b : Int) : SRect := bif (decide (0 <= (IntKind.wrap .u64 a))) then let e := IntKind.wrap .i64 (c * 2 ^ (min (Int.toNat (IntKind.wrap .u64 a)) 64)); bif (decide (0 <= (IntKind.wrap .u64 b))) then let f := IntKind.wrap .i64 (d * 2 ^ (min (Int.toNat (IntKind.wrap .u64 b)) 64)); let g := IntKind.wrap .i64 (c + 1); bif (decide (0 <= (IntKind.wrap .u64 a))) then let i := IntKind.wrap .i64 (g * 2 ^ (min (Int.toNat (IntKind.wrap .u64 a)) 64)); let j := IntKind.wrap .i64 (d + 1); bif (decide (0 <= (IntKind.wrap .u64 b))) then let m := IntKind.wrap .i64 (j * 2 ^ (min (Int.toNat (IntKind.wrap .u64 b)) 64)); (SRect.mk e f i m) else default else default else default else default
noncomputable def pre_C8 (c d a b : Int) : Bool := bif (decide (0 <= (IntKind.wrap .u64 a))) then bif (decide (0 <= (IntKind.wrap .u64 b))) then bif (decide (0 <= (IntKind.wrap .u64 a))) then bif (decide (0 <= (IntKind.wrap .u64 b))) then true else false else false else false else false
noncomputable def m_B1 (i f : SRect) (g d e j : Int) : SRect × Bool := let a := m_B6 i d e j; bif ((!a.2.2) == false) then let m := m_H1 f; let o := decide (g < 0); let p : Bool := (bif (!m) then true else o); let q := decide (g > 3); let r : Bool := (bif p then true else q); bif r then ((SRect.mk 0 0 0 0), false) else bif (g != 0) then let s : Bool := (bif (d == 0) then true else (e == 0)); bif s then ((SRect.mk 0 0 0 0), false) else let t := IntKind.wrap .i64 (d - 1); let u := IntKind.wrap .i64 (e - 1); let v := m_C8 a.1 a.2.1 t u; let b := m_C6 f v; let w := (b.X0 == 0) && ((b.Y0 == 0) && ((b.X1 == 0) && ((b.Y1 == 0) && true))); bif w then ((SRect.mk 0 0 0 0), true) else (b, true) else let y := m_C8 a.1 a.2.1 d e; let c := m_C6 f y; let z := (c.X0 == 0) && ((c.Y0 == 0) && ((c.X1 == 0) && ((c.Y1 == 0) && true))); bif z then ((SRect.mk 0 0 0 0), true) else (c, true) else ((SRect.mk 0 0 0 0), false)
def m_A9 (a : SRect) (bx bY : Int) : Int × Int × Rows :=
  ((m_C3 a bx bY 6).2.2.1, (m_C3 a bx bY 6).2.2.2,
    (rngI 0 (m_C3 a bx bY 6).2.2.2).flatMap fun r => (rngI 0 (m_C3 a bx bY 6).2.2.1).map fun c =>
      SRect.row (m_C6 a (m_C8 (IntKind.wrap .i64 ((m_C3 a bx bY 6).1 + c)) (IntKind.wrap .i64 ((m_C3 a bx bY 6).2.1 + r)) bx bY)))
noncomputable def m_F3 (o : SHeader) (a : SParams) (p q d r : Int) : Slayout_part := let e := m_D6 d a.Levels; bif (!e.2.2) then (Slayout_part.mk 0 0 []) else let y := decide (d > 0); bif y then let z := IntKind.wrap .i64 (a.Levels - e.1); let f := IntKind.wrap .i64 (z + 1); let s := m_B0 o p q; let b := m_B5 a f; let A := m_A6 s a.Levels f; let B := m_F1 s a.Levels d; let g := m_B1 A B e.2.1 b.X b.Y r; bif (!g.2) then (Slayout_part.mk 0 0 []) else let D := decide (f > 0); bif D then let t := IntKind.wrap .i64 (b.X - 1); let u := IntKind.wrap .i64 (b.Y - 1); let E : Int := (bif (decide (t < a.BlockX)) then t else a.BlockX); let F : Int := (bif (decide (u < a.BlockY)) then u else a.BlockY); let i := m_A9 g.1 E F; (Slayout_part.mk i.1 i.2.1 i.2.2) else let H : Int := (bif (decide (b.X < a.BlockX)) then b.X else a.BlockX); let I : Int := (bif (decide (b.Y < a.BlockY)) then b.Y else a.BlockY); let j := m_A9 g.1 H I; (Slayout_part.mk j.1 j.2.1 j.2.2) else let v := m_B0 o p q; let c := m_B5 a 0; let J := m_A6 v a.Levels 0; let K := m_F1 v a.Levels d; let w := m_B1 J K e.2.1 c.X c.Y r; bif (!w.2) then (Slayout_part.mk 0 0 []) else let L : Int := (bif (decide (c.X < a.BlockX)) then c.X else a.BlockX); let M : Int := (bif (decide (c.Y < a.BlockY)) then c.Y else a.BlockY); let m := m_A9 w.1 L M; (Slayout_part.mk m.1 m.2.1 m.2.2)
def idRows (c r b p : Int) (l : Rows) : Rows := (rngI 0 (l.length : Int)).map fun i => SBlockID.row ⟨c, r, b, p, i, SRect.of (l.getD i.toNat [])⟩
def m_A7 (band : Int) (h : SHeader) (p : SParams) (tile : Int) (id : SPacketID) : Rows := idRows id.Comp id.Res band id.Precinct (m_F3 h p tile id.Comp band id.Precinct).blocks
def m_B8 (h : SHeader) (p : SParams) (tile : Int) (id : SPacketID) : Rows := (m_B4 p.Levels id.Res).flatMap fun w => m_A7 (V.toInt (List.getD w 0 V.undef)) h p tile id
def m_G6 (h : SHeader) (p : SParams) (tile : Int) : Rows := bif m_D7 h p tile 0 then
    (rngI 0 (h.Components.length : Int)).flatMap fun comp => (rngI 0 (p.Levels + 1)).flatMap fun res =>
      (rngI 0 (IntKind.wrap .i64 ((m_A8 h p tile comp res).2.1 * (m_A8 h p tile comp res).2.2))).flatMap fun k => m_B8 h p tile ⟨comp, res, k, 0⟩
  else []
def m_A0 (a : Rows) : Rows := a
def pre_A0 (a : Rows) : Bool := roomOK (0 + a.length) 32
def m_A1 (a : Rows) : Rows := a
def pre_A1 (a : Rows) : Bool := roomOK (0 + a.length) 16
def m_A2 (a : Rows) : Rows := a
def pre_A2 (a : Rows) : Bool := roomOK (0 + a.length) 8
noncomputable def m_E8 (b : SHeader) (a : SParams) : SHeader × SParams := bif (pre_A0 b.Components) then let c := m_A0 b.Components; bif (pre_A1 a.Precincts) then let d := m_A1 a.Precincts; bif (pre_A2 a.Steps) then let e := m_A2 a.Steps; ((SHeader.mk b.Area b.TileW b.TileH c), (SParams.mk a.Kernel a.Levels a.Color a.BlockX a.BlockY d a.Order a.Layers a.Mode a.Divide a.Sync a.Fence e a.Dead a.Shift)) else default else default else default
noncomputable def pre_E8 (b : SHeader) (a : SParams) : Bool := bif (pre_A0 b.Components) then bif (pre_A1 a.Precincts) then bif (pre_A2 a.Steps) then true else false else false else false
noncomputable def m_B7 (b : SHeader) (c : SParams) (a : SView) : SHeader × Int := let d := m_E2 b c; bif (d != 0) then ((SHeader.mk (SRect.mk 0 0 0 0) 0 0 []), d) else let r := decide (a.Layers < 0); let s := decide (a.Layers > 16); let t : Bool := (bif r then true else s); let u := decide (a.Drop < 0); let v : Bool := (bif t then true else u); let w := decide (a.Drop > c.Levels); let y : Bool := (bif v then true else w); bif y then ((SHeader.mk (SRect.mk 0 0 0 0) 0 0 []), 2) else let z := !((a.Window.X0 == 0) && ((a.Window.Y0 == 0) && ((a.Window.X1 == 0) && ((a.Window.Y1 == 0) && true)))); bif z then let e := m_C6 b.Area a.Window; let A := m_H1 a.Window; bif ((!A) == false) then let B := m_H2 e; bif B then ((SHeader.mk (SRect.mk 0 0 0 0) 0 0 []), 2) else let f := IntKind.wrap .u64 a.Drop; bif (decide (0 <= f)) then let g := IntKind.wrap .i64 (1 * 2 ^ (min (Int.toNat f) 64)); bif (pre_E8 b (SParams.mk 0 0 0 0 0 [] 0 0 (SMode.mk false false false false false) false false false [] 0 0)) then let i := m_E8 b (SParams.mk 0 0 0 0 0 [] 0 0 (SMode.mk false false false false false) false false false [] 0 0); let j := m_F4 e g g; let D := m_C9 (SHeader.mk j 4096 4096 i.1.Components); bif (D != 0) then ((SHeader.mk (SRect.mk 0 0 0 0) 0 0 []), 2) else ((SHeader.mk j 4096 4096 i.1.Components), 0) else default else default else ((SHeader.mk (SRect.mk 0 0 0 0) 0 0 []), 2) else let m := IntKind.wrap .u64 a.Drop; bif (decide (0 <= m)) then let o := IntKind.wrap .i64 (1 * 2 ^ (min (Int.toNat m) 64)); bif (pre_E8 b (SParams.mk 0 0 0 0 0 [] 0 0 (SMode.mk false false false false false) false false false [] 0 0)) then let p := m_E8 b (SParams.mk 0 0 0 0 0 [] 0 0 (SMode.mk false false false false false) false false false [] 0 0); let q := m_F4 b.Area o o; let E := m_C9 (SHeader.mk q 4096 4096 p.1.Components); bif (E != 0) then ((SHeader.mk (SRect.mk 0 0 0 0) 0 0 []), 2) else ((SHeader.mk q 4096 4096 p.1.Components), 0) else default else default
noncomputable def pre_B7 (b : SHeader) (c : SParams) (a : SView) : Bool := let j := m_E2 b c; bif (j != 0) then true else let m := decide (a.Layers < 0); let o := decide (a.Layers > 16); let p : Bool := (bif m then true else o); let q := decide (a.Drop < 0); let r : Bool := (bif p then true else q); let s := decide (a.Drop > c.Levels); let t : Bool := (bif r then true else s); bif t then true else let u := !((a.Window.X0 == 0) && ((a.Window.Y0 == 0) && ((a.Window.X1 == 0) && ((a.Window.Y1 == 0) && true)))); bif u then let d := m_C6 b.Area a.Window; let v := m_H1 a.Window; bif ((!v) == false) then let w := m_H2 d; bif w then true else let e := IntKind.wrap .u64 a.Drop; bif (decide (0 <= e)) then let f := IntKind.wrap .i64 (1 * 2 ^ (min (Int.toNat e) 64)); bif (pre_E8 b (SParams.mk 0 0 0 0 0 [] 0 0 (SMode.mk false false false false false) false false false [] 0 0)) then let y := m_E8 b (SParams.mk 0 0 0 0 0 [] 0 0 (SMode.mk false false false false false) false false false [] 0 0); let z := m_F4 d f f; let A := m_C9 (SHeader.mk z 4096 4096 y.1.Components); bif (A != 0) then true else true else false else false else true else let g := IntKind.wrap .u64 a.Drop; bif (decide (0 <= g)) then let i := IntKind.wrap .i64 (1 * 2 ^ (min (Int.toNat g) 64)); bif (pre_E8 b (SParams.mk 0 0 0 0 0 [] 0 0 (SMode.mk false false false false false) false false false [] 0 0)) then let B := m_E8 b (SParams.mk 0 0 0 0 0 [] 0 0 (SMode.mk false false false false false) false false false [] 0 0); let D := m_F4 b.Area i i; let E := m_C9 (SHeader.mk D 4096 4096 B.1.Components); bif (E != 0) then true else true else false else false
noncomputable def m_F2 (a : Int) : Int := bif (a == 1) then bif (a == 1) then 2 else bif (a == 3) then 4 else 0 else bif (a == 2) then 2 else bif (a == 3) then 4 else 0
def needN (a : SRect) (l m : Int) : Nat -> Rows -> SRect -> Rows × SRect
  | 0, o, w => (o, w)
  | n + 1, o, w => (fun (b : SA4_Rect) => needN a l m n (((o.set (3 * n + 1) (SRect.row b.e1)).set (3 * n + 2) (SRect.row b.e2)).set (3 * n + 3) (SRect.row b.e3)) b.e0)
      (m_J1 (m_C6 ⟨IntKind.wrap .i64 (w.X0 - m), IntKind.wrap .i64 (w.Y0 - m), IntKind.wrap .i64 (w.X1 + m), IntKind.wrap .i64 (w.Y1 + m)⟩ (m_A6 a l ((n : Int) + 1))))
def needOK (a : SRect) (l res k : Int) : Bool := m_H1 a && decide (0 <= l) && decide (l <= 5) && decide (0 <= res) && decide (res <= l) && (m_F2 k != 0)
def m_F0 (a : SRect) (l res : Int) (win : SRect) (k : Int) : Rows := bif needOK a l res k then
    (fun (w : SRect) => bif m_H2 w then List.replicate (3 * l + 1).toNat (SRect.row ⟨0, 0, 0, 0⟩)
      else (fun (q : Rows × SRect) => q.1.set 0 (SRect.row q.2)) (needN a l (m_F2 k) res.toNat (List.replicate (3 * l + 1).toNat (SRect.row ⟨0, 0, 0, 0⟩)) w))
    (m_C6 win (m_A6 a l res))
  else []
def isWhole (r : SRect) : Bool := (r.X0 == 0) && ((r.Y0 == 0) && ((r.X1 == 0) && ((r.Y1 == 0) && true)))
def partOf (h : SHeader) (tile : Int) (v : SView) : SRect := bif !isWhole v.Window then m_C6 (SRect.of (List.getD (m_E7 h) tile.toNat [])) v.Window else SRect.of (List.getD (m_E7 h) tile.toNat [])
def dropD (v : SView) : Int := IntKind.wrap .i64 (1 * 2 ^ (min (Int.toNat (IntKind.wrap .u64 v.Drop)) 64))
def needOf (h : SHeader) (p : SParams) (tile : Int) (v : SView) (comp : Int) : Rows :=
  m_F0 (m_B0 h tile comp) p.Levels (IntKind.wrap .i64 (p.Levels - v.Drop)) (m_F4 (compRect (partOf h tile v) (List.getD h.Components comp.toNat [])) (dropD v) (dropD v)) p.Kernel
def blockNeeded (h : SHeader) (p : SParams) (tile : Int) (v : SView) (id : SBlockID) : Bool := !m_H2 (m_C6 id.Rect (SRect.of (List.getD (needOf h p tile v id.Comp) id.Band.toNat [])))
def m_D4 (h : SHeader) (p : SParams) (tile : Int) (v : SView) : Rows :=
  ((rngI 0 ((m_G6 h p tile).length : Int)).filter fun i => blockNeeded h p tile v (SBlockID.of (List.getD (m_G6 h p tile) i.toNat []))).map fun i => [SBlockID.v (SBlockID.of (List.getD (m_G6 h p tile) i.toNat [])), V.int .i64 i]
def pre_D4 (h : SHeader) (p : SParams) (tile : Int) (v : SView) : Bool := m_D7 h p tile 0 && decide (0 <= v.Drop) && decide (v.Drop <= p.Levels)
def m_D2 (h : SHeader) (p : SParams) (tile : Int) (v : SView) : Rows × Int :=
  bif (m_B7 h p v).2 != 0 then ([], (m_B7 h p v).2)
  else bif decide (tile < 0) || decide (tile >= ((m_E7 h).length : Int)) then ([], 14)
  else ((m_G6 h p tile).map fun w => [V.bool (blockNeeded h p tile v (SBlockID.of w))], 0)
def m_E9 (h : SHeader) (v : SView) : Rows :=
  bif (m_C9 h == 0) && (isWhole v.Window || m_H1 v.Window) then
    ((rngI 0 ((m_E7 h).length : Int)).filter fun i => isWhole v.Window || !m_H2 (m_C6 (SRect.of (List.getD (m_E7 h) i.toNat [])) v.Window)).map fun i => [V.int .i64 i]
  else []
def m_I7 (l : Rows) : Int := ((l.filter fun w => V.toBool (List.getD w 0 V.undef)).length : Int)
def pre_I7 (l : Rows) : Bool := Nat.ble l.length 1099511627776
def m_J0 : Bool := true
def m_B2 (x : SL39_Place) (v : SView) : Bool := true
noncomputable def m_D3 (a : SHeader) (c b : Int) : SRect := let d := m_I3 a; let e := decide (c < 0); bif (e == false) then let f := (((List.length d) : Nat) : Int); let g := decide (b < 0); let i : Bool := (bif (decide (c >= f)) then true else g); bif (i == false) then let j := (((List.length a.Components) : Nat) : Int); bif (decide (b >= j)) then (SRect.mk 0 0 0 0) else bif (inR c (List.length d)) then let m := List.getD d (Int.toNat c) []; let o := SRect.of m; bif (inR b (List.length a.Components)) then let p := List.getD a.Components (Int.toNat b) []; let q := V.toInt (List.getD p 2 V.undef); bif (inR b (List.length a.Components)) then let r := List.getD a.Components (Int.toNat b) []; let s := V.toInt (List.getD r 3 V.undef); let t := m_H0 o q s; t else default else default else default else (SRect.mk 0 0 0 0) else (SRect.mk 0 0 0 0)
noncomputable def m_D0 (a : SRect) (b c : Int) : Int × Int := let i := m_I4 a; bif ((!i) == false) then let j := m_H8 a; let m := decide (b < 0); let o : Bool := (bif j then true else m); let p := decide (b > 12); let q : Bool := (bif o then true else p); let r := decide (c < 0); let s : Bool := (bif q then true else r); let t := decide (c > 12); let u : Bool := (bif s then true else t); bif u then (0, 0) else bif (decide (0 <= (IntKind.wrap .u64 b))) then let d := IntKind.wrap .i64 (1 * 2 ^ (min (Int.toNat (IntKind.wrap .u64 b)) 64)); bif (decide (0 <= (IntKind.wrap .u64 c))) then let e := IntKind.wrap .i64 (1 * 2 ^ (min (Int.toNat (IntKind.wrap .u64 c)) 64)); let v := m_F9 a.X1 d; let w := m_E6 a.X0 d; let f := IntKind.wrap .i64 (v - w); let y := m_F9 a.Y1 e; let z := m_E6 a.Y0 e; let g := IntKind.wrap .i64 (y - z); let A := IntKind.wrap .i64 (f * g); let B := decide (A > 65536); bif B then (0, 0) else (f, g) else default else default else (0, 0)
noncomputable def m_C7 (f : SRect) (a : SParams) (b : Int) : SRect × Int × Int := let c := m_C1 f a.Levels b; let d := m_E5 a b; let e := m_D0 c d.X d.Y; (c, e.1, e.2)
noncomputable def m_I9 (c : SRect) (d e b : Int) : Int × Int × Bool := let a := m_D0 c d e; let f := decide (b < 0); let g := IntKind.wrap .i64 (a.1 * a.2); let i : Bool := (bif f then true else (decide (b >= g))); bif i then (0, 0, false) else bif (decide (0 <= (IntKind.wrap .u64 d))) then let j := IntKind.wrap .i64 (1 * 2 ^ (min (Int.toNat (IntKind.wrap .u64 d)) 64)); let m := m_E6 c.X0 j; bif (a.1 != 0) then let o := IntKind.wrap .i64 (m + (Int.tmod b a.1)); bif (decide (0 <= (IntKind.wrap .u64 e))) then let p := IntKind.wrap .i64 (1 * 2 ^ (min (Int.toNat (IntKind.wrap .u64 e)) 64)); let q := m_E6 c.Y0 p; bif (a.1 != 0) then let r := IntKind.wrap .i64 (Int.tdiv b a.1); let s := IntKind.wrap .i64 (q + r); (o, s, true) else default else default else default else default
noncomputable def m_J2 (a b c d : Int) : SRect := bif (decide (0 <= (IntKind.wrap .u64 c))) then let e := IntKind.wrap .i64 (1 * 2 ^ (min (Int.toNat (IntKind.wrap .u64 c)) 64)); bif (decide (0 <= (IntKind.wrap .u64 d))) then let f := IntKind.wrap .i64 (1 * 2 ^ (min (Int.toNat (IntKind.wrap .u64 d)) 64)); let g := IntKind.wrap .i64 (a * e); let i := IntKind.wrap .i64 (b * f); let j := IntKind.wrap .i64 (a + 1); let m := IntKind.wrap .i64 (j * e); let o := IntKind.wrap .i64 (b + 1); let p := IntKind.wrap .i64 (o * f); (SRect.mk g i m p) else default else default
noncomputable def m_G4 (f d : SRect) (e b c g : Int) : SRect × Bool := let a := m_I9 f b c g; bif ((!a.2.2) == false) then let i := m_I4 d; let j := decide (e < 0); let m : Bool := (bif (!i) then true else j); let o := decide (e > 3); let p : Bool := (bif m then true else o); bif p then ((SRect.mk 0 0 0 0), false) else bif (e == 0) then let q := m_J2 a.1 a.2.1 b c; let r := m_E0 d q; (r, true) else let s : Bool := (bif (b == 0) then true else (c == 0)); bif s then ((SRect.mk 0 0 0 0), false) else let t := IntKind.wrap .i64 (b - 1); let u := IntKind.wrap .i64 (c - 1); let v := m_J2 a.1 a.2.1 t u; let w := m_E0 d v; (w, true) else ((SRect.mk 0 0 0 0), false)
def m_H3 (a : SRect) (bx bY : Int) : Int × Int × Rows := m_A9 a bx bY
noncomputable def m_G3 (e : SRect) (a : SParams) (b f m : Int) : Int × Int × Rows := let o := m_I5 f a.Levels; let c := m_E5 a b; let p := m_C1 e a.Levels b; let q := m_J5 e a.Levels f; let g := m_G4 p q o.2.1 c.X c.Y m; bif (!g.2) then (0, 0, []) else let r : Int := (bif (decide (1 < b)) then 1 else b); let i := IntKind.wrap .i64 (c.X - r); let s : Int := (bif (decide (i < a.BlockX)) then i else a.BlockX); let t : Int := (bif (decide (1 < b)) then 1 else b); let j := IntKind.wrap .i64 (c.Y - t); let u : Int := (bif (decide (j < a.BlockY)) then j else a.BlockY); let d := m_H3 g.1 s u; (d.1, d.2.1, d.2.2)
def m_C4 (r : SRect) (p : SParams) (comp res k : Int) : Rows := (m_B4 p.Levels res).flatMap fun w => idRows comp res (V.toInt (List.getD w 0 V.undef)) k (m_G3 r p res (V.toInt (List.getD w 0 V.undef)) k).2.2
theorem tdiv3 {n : Int} (h : 0 <= n) : Int.tdiv n 3 = n / 3 := Int.tdiv_eq_ediv_of_nonneg h
theorem pyramid_Count_eq (l : Int) : m_D9 l = if 0 <= l /\ l <= 5 then 3 * l + 1 else 0 := by
  unfold m_D9 m_A4
  by_cases h : 0 <= l /\ l <= 5
  · have h1 : decide (l >= 0) = true := by simp; omega
    have h2 : decide (l <= 5) = true := by simp; omega
    rw [if_pos h]
    simp only [h1, h2, Bool.not_true, cond_false, cond_true, Bool.not_false]
    rw [w64 (n := 3 * l) (by omega) (by omega), w64 (by omega) (by omega)]
  · rw [if_neg h]
    by_cases h0 : l >= 0
    · have h1 : decide (l >= 0) = true := by simp; omega
      have h2 : decide (l <= 5) = false := by simp; omega
      simp only [h1, h2, Bool.not_true, cond_false, cond_true, Bool.not_false]
    · have h1 : decide (l >= 0) = false := by simp; omega
      simp only [h1, Bool.not_true, cond_false, cond_true, Bool.not_false]
theorem R06_Count_eq (l : Int) : m_I0 l = m_D9 l := by
  rw [pyramid_Count_eq]
  unfold m_I0
  by_cases h0 : l < 0
  · have h1 : decide (l < 0) = true := by simpa using h0
    rw [if_neg (by omega)]
    simp [h1]
  · have h1 : decide (l < 0) = false := by simpa using h0
    by_cases h2 : l > 5
    · have h3 : decide (l > 5) = true := by simpa using h2
      rw [if_neg (by omega)]
      simp [h1, h3]
    · have h3 : decide (l > 5) = false := by simpa using h2
      rw [if_pos (by omega)]
      simp only [h1, h3, cond_false]
      rw [w64 (n := 3 * l) (by omega) (by omega), w64 (by omega) (by omega)]
theorem R06_Place_eq (i l : Int) : m_I5 i l = m_D6 i l := by
  unfold m_I5 m_D6
  rw [R06_Count_eq]
theorem pyramid_Place_eq (i l : Int) : m_D6 i l = if 0 <= i /\ i < m_D9 l then (if i = 0 then (l, 0, true) else (l - (i + 2) / 3 + 1, i - 3 * ((i + 2) / 3) + 3, true)) else (0, 0, false) := by
  unfold m_D6
  by_cases h0 : i < 0
  · rw [if_neg (by omega)]; simp [h0]
  · by_cases hc : i >= m_D9 l
    · rw [if_neg (by omega)]; simp [h0, hc]
    · rw [if_pos (by omega)]
      by_cases hz : i = 0
      · subst hz
        have hc2 : ¬ (m_D9 l <= 0) := by omega
        simp [hc2]
      · rw [if_neg hz]
        rw [pyramid_Count_eq] at hc
        have h5 : 0 <= l /\ l <= 5 := by
          apply Decidable.byContradiction
          intro hn
          rw [if_neg hn] at hc; omega
        rw [if_pos h5] at hc
        have hc' : ¬ (i >= m_D9 l) := by rw [pyramid_Count_eq, if_pos h5]; omega
        have e1 : (i == 0) = false := by simp [hz]
        simp only [h0, hc', decide_false, e1, cond_false, cond_true, beq_self_eq_true]
        have w1 : IntKind.wrap .i64 (i + 2) = i + 2 := w64 (by omega) (by omega)
        rw [w1, tdiv3 (by omega)]
        have w2 : IntKind.wrap .i64 ((i + 2) / 3) = (i + 2) / 3 := w64 (by omega) (by omega)
        rw [w2]
        rw [w64 (n := l - (i + 2) / 3) (by omega) (by omega), w64 (n := l - (i + 2) / 3 + 1) (by omega) (by omega), w64 (n := 3 * ((i + 2) / 3)) (by omega) (by omega), w64 (n := i - 3 * ((i + 2) / 3)) (by omega) (by omega), w64 (n := i - 3 * ((i + 2) / 3) + 3) (by omega) (by omega)]
theorem place_o {i l : Int} (h : (m_D6 i l).2.2 = true) : 0 <= (m_D6 i l).2.1 /\ (m_D6 i l).2.1 < 4 := by
  rw [pyramid_Place_eq] at h ⊢
  split at h
  · rename_i hh
    rw [if_pos hh]
    split
    · exact ⟨Int.le_refl 0, by show (0 : Int) < 4; decide⟩
    · have := hh
      exact ⟨by simp only []; omega, by simp only []; omega⟩
  · simp at h
theorem pt_F9 (a0 a1 : Int) : pre_F9 a0 a1 = true := by
  repeat' (first | rfl | (refine pre_bif ?_ ?_ <;> intro _))
  all_goals (simp_all [inR] <;> omega)
theorem pt_E6 (a0 a1 : Int) : pre_E6 a0 a1 = true := by
  repeat' (first | rfl | (refine pre_bif ?_ ?_ <;> intro _))
  all_goals (simp_all [inR] <;> omega)
theorem pt_E5 (a0 : SParams) (a1 : Int) : pre_E5 a0 a1 = true := by
  repeat' (first | rfl | (refine pre_bif ?_ ?_ <;> intro _))
  all_goals (simp_all [inR] <;> omega)
theorem pt_J5 (a0 : SRect) (a1 a2 : Int) : pre_J5 a0 a1 a2 = true := by
  repeat' (first | rfl | (refine pre_bif ?_ ?_ <;> intro _))
  rename_i h1 h2 h3 h4
  rw [R06_Place_eq] at h1 h4
  have h5 : (m_D6 a2 a1).2.2 = true := by simpa using h1
  obtain ⟨h6, h7⟩ := place_o h5
  simp [inR] at h4
  omega
theorem pt_E3 (a0 a1 : Int) : pre_E3 a0 a1 = true := by
  repeat' (first | rfl | (refine pre_bif ?_ ?_ <;> intro _))
  all_goals (simp_all [inR] <;> omega)
theorem pt_D1 (a0 a1 : Int) : pre_D1 a0 a1 = true := by
  repeat' (first | rfl | (refine pre_bif ?_ ?_ <;> intro _))
  all_goals (simp_all [inR] <;> omega)
theorem pt_A6 (a0 : SRect) (a1 a2 : Int) : pre_A6 a0 a1 a2 = true := by
  repeat' (first | rfl | (refine pre_bif ?_ ?_ <;> intro _))
  all_goals (simp_all [inR] <;> omega)
theorem pt_B5 (a0 : SParams) (a1 : Int) : pre_B5 a0 a1 = true := by
  repeat' (first | rfl | (refine pre_bif ?_ ?_ <;> intro _))
  all_goals (simp_all [inR] <;> omega)
theorem pt_F1 (a0 : SRect) (a1 a2 : Int) : pre_F1 a0 a1 a2 = true := by
  repeat' (first | rfl | (refine pre_bif ?_ ?_ <;> intro _))
  rename_i h1 h2 h3 h4
  have h5 : (m_D6 a2 a1).2.2 = true := by simpa using h1
  obtain ⟨h6, h7⟩ := place_o h5
  simp [inR] at h4
  omega
theorem pt_E4 (a0 : SRect) (a1 a2 : Int) : pre_E4 a0 a1 a2 = true := by
  repeat' (first | rfl | (refine pre_bif ?_ ?_ <;> intro _))
  all_goals (simp_all [inR] <;> omega)
theorem pt_B0 (a0 : SHeader) (a1 a2 : Int) : pre_B0 a0 a1 a2 = true := by
  repeat' (first | rfl | (refine pre_bif ?_ ?_ <;> intro _))
  all_goals (simp_all [inR] <;> omega)
theorem pt_C2 (a0 a1 a2 : Int) : pre_C2 a0 a1 a2 = true := by
  repeat' (first | rfl | (refine pre_bif ?_ ?_ <;> intro _))
  all_goals (simp_all [inR] <;> omega)
theorem pt_B6 (a0 : SRect) (a1 a2 a3 : Int) : pre_B6 a0 a1 a2 a3 = true := by
  by_cases hz : (m_C3 a0 a1 a2 12).2.2.1 = 0
  · unfold pre_B6
    simp only [hz]
    have e : IntKind.wrap .i64 (0 * (m_C3 a0 a1 a2 12).2.2.2) = 0 := by rw [Int.zero_mul]; exact w64 (by decide) (by decide)
    rw [e]
    by_cases h : a3 < 0
    · simp [h]
    · have h2 : a3 >= 0 := by omega
      simp [h, h2]
  · repeat' (first | rfl | (refine pre_bif ?_ ?_ <;> intro _))
    all_goals simp_all
theorem pt_C8 (a0 a1 a2 a3 : Int) : pre_C8 a0 a1 a2 a3 = true := by
  repeat' (first | rfl | (refine pre_bif ?_ ?_ <;> intro _))
  all_goals (simp_all [inR] <;> omega)
noncomputable def hp_H8 (l : List At) : Bool := match l with
  | .i _ :: .i _ :: .i _ :: .i _ :: [] => true
  | _ => false
noncomputable def hr_H8 (l : List At) : V := match l with
  | .i a :: .i b :: .i c :: .i d :: [] => (V.bool (m_H8 (SRect.mk a b c d)))
  | _ => .undef
abbrev args_H8 : List T := [.agg SRect.ts]
noncomputable def c_H8 : CallF R := callHook args_H8 hp_H8 hr_H8
abbrev G_H8 : Prop := Good1 (R := V) Try.prog 31 c_H8
noncomputable def hp_I4 (l : List At) : Bool := match l with
  | .i _ :: .i _ :: .i _ :: .i _ :: [] => true
  | _ => false
noncomputable def hr_I4 (l : List At) : V := match l with
  | .i a :: .i b :: .i c :: .i d :: [] => (V.bool (m_I4 (SRect.mk a b c d)))
  | _ => .undef
abbrev args_I4 : List T := [.agg SRect.ts]
noncomputable def c_I4 : CallF R := callHook args_I4 hp_I4 hr_I4
abbrev G_I4 : Prop := Good1 (R := V) Try.prog 37 c_I4
noncomputable def hp_K0 (l : List At) : Bool := match l with
  | .i _ :: .i _ :: .i _ :: [] => true
  | _ => false
noncomputable def hr_K0 (l : List At) : V := match l with
  | .i a :: .i b :: .i c :: [] => (V.bool (m_K0 a b c))
  | _ => .undef
abbrev args_K0 : List T := [.int .i64, .int .i64, .int .i64]
noncomputable def c_K0 : CallF R := callHook args_K0 hp_K0 hr_K0
abbrev G_K0 : Prop := Good1 (R := V) Try.prog 42 c_K0
noncomputable def hp_F9 (l : List At) : Bool := match l with
  | .i _ :: .i _ :: [] => true
  | _ => false
noncomputable def hr_F9 (l : List At) : V := match l with
  | .i a :: .i b :: [] => (V.int .i64 (m_F9 a b))
  | _ => .undef
abbrev args_F9 : List T := [.int .i64, .int .i64]
noncomputable def c_F9 : CallF R := callHook args_F9 hp_F9 hr_F9
abbrev G_F9 : Prop := Good1 (R := V) Try.prog 75 c_F9
noncomputable def hp_H0 (l : List At) : Bool := match l with
  | .i _ :: .i _ :: .i _ :: .i _ :: .i _ :: .i _ :: [] => true
  | _ => false
noncomputable def hr_H0 (l : List At) : V := match l with
  | .i a :: .i b :: .i c :: .i d :: .i e :: .i f :: [] => (SRect.v (m_H0 (SRect.mk a b c d) e f))
  | _ => .undef
abbrev args_H0 : List T := [.agg SRect.ts, .int .i64, .int .i64]
noncomputable def c_H0 : CallF R := callHook args_H0 hp_H0 hr_H0
abbrev G_H0 : Prop := Good1 (R := V) Try.prog 43 c_H0
noncomputable def hp_E6 (l : List At) : Bool := match l with
  | .i _ :: .i _ :: [] => true
  | _ => false
noncomputable def hr_E6 (l : List At) : V := match l with
  | .i a :: .i b :: [] => (V.int .i64 (m_E6 a b))
  | _ => .undef
abbrev args_E6 : List T := [.int .i64, .int .i64]
noncomputable def c_E6 : CallF R := callHook args_E6 hp_E6 hr_E6
abbrev G_E6 : Prop := Good1 (R := V) Try.prog 76 c_E6
noncomputable def hp_H6 (l : List At) : Bool := match l with
  | .i _ :: .i _ :: .i _ :: .i _ :: .i _ :: .i _ :: .r _ :: [] => true
  | _ => false
noncomputable def hr_H6 (l : List At) : V := match l with
  | .i a :: .i b :: .i c :: .i d :: .i e :: .i f :: .r g :: [] => (V.int .i64 (m_H6 (SHeader.mk (SRect.mk a b c d) e f g)))
  | _ => .undef
abbrev args_H6 : List T := [.agg SHeader.ts]
noncomputable def c_H6 : CallF R := callHook args_H6 hp_H6 hr_H6
abbrev G_H6 : Prop := Good1 (R := V) Try.prog 44 c_H6
noncomputable def hp_J6 (l : List At) : Bool := match l with
  | .i _ :: .i _ :: .i _ :: .i _ :: [] => true
  | _ => false
noncomputable def hr_J6 (l : List At) : V := match l with
  | .i a :: .i b :: .i c :: .i d :: [] => (V.int .i64 (m_J6 (SRect.mk a b c d)))
  | _ => .undef
abbrev args_J6 : List T := [.agg SRect.ts]
noncomputable def c_J6 : CallF R := callHook args_J6 hp_J6 hr_J6
abbrev G_J6 : Prop := Good1 (R := V) Try.prog 45 c_J6
noncomputable def hp_H4 (l : List At) : Bool := match l with
  | .i _ :: .i _ :: .i _ :: .i _ :: .i _ :: .i _ :: .r _ :: [] => true
  | _ => false
noncomputable def hr_H4 (l : List At) : V := match l with
  | .i a :: .i b :: .i c :: .i d :: .i e :: .i f :: .r g :: [] => (V.int .i64 (m_H4 (SHeader.mk (SRect.mk a b c d) e f g)))
  | _ => .undef
abbrev args_H4 : List T := [.agg SHeader.ts]
noncomputable def c_H4 : CallF R := callHook args_H4 hp_H4 hr_H4
abbrev G_H4 : Prop := Good1 (R := V) Try.prog 19 c_H4
noncomputable def hp_E0 (l : List At) : Bool := match l with
  | .i _ :: .i _ :: .i _ :: .i _ :: .i _ :: .i _ :: .i _ :: .i _ :: [] => true
  | _ => false
noncomputable def hr_E0 (l : List At) : V := match l with
  | .i a :: .i b :: .i c :: .i d :: .i e :: .i f :: .i g :: .i i :: [] => (SRect.v (m_E0 (SRect.mk a b c d) (SRect.mk e f g i)))
  | _ => .undef
abbrev args_E0 : List T := [.agg SRect.ts, .agg SRect.ts]
noncomputable def c_E0 : CallF R := callHook args_E0 hp_E0 hr_E0
abbrev G_E0 : Prop := Good1 (R := V) Try.prog 32 c_E0
noncomputable def hp_H5 (l : List At) : Bool := match l with
  | .i _ :: .i _ :: .i _ :: .i _ :: .i _ :: .i _ :: [] => true
  | _ => false
noncomputable def hr_H5 (l : List At) : V := match l with
  | .i a :: .i b :: .i c :: .i d :: .i e :: .i f :: [] => (V.data SRect.sh (m_H5 (SRect.mk a b c d) e f))
  | _ => .undef
abbrev args_H5 : List T := [.agg SRect.ts, .int .i64, .int .i64]
noncomputable def c_H5 : CallF R := callHook args_H5 hp_H5 hr_H5
abbrev G_H5 : Prop := Good1 (R := V) Try.prog 46 c_H5
noncomputable def hp_I3 (l : List At) : Bool := match l with
  | .i _ :: .i _ :: .i _ :: .i _ :: .i _ :: .i _ :: .r _ :: [] => true
  | _ => false
noncomputable def hr_I3 (l : List At) : V := match l with
  | .i a :: .i b :: .i c :: .i d :: .i e :: .i f :: .r g :: [] => (V.data SRect.sh (m_I3 (SHeader.mk (SRect.mk a b c d) e f g)))
  | _ => .undef
abbrev args_I3 : List T := [.agg SHeader.ts]
noncomputable def c_I3 : CallF R := callHook args_I3 hp_I3 hr_I3
abbrev G_I3 : Prop := Good1 (R := V) Try.prog 20 c_I3
noncomputable def hp_I1 (l : List At) : Bool := match l with
  | .i _ :: .i _ :: .i _ :: .i _ :: .i _ :: .r _ :: .i _ :: .i _ :: .b _ :: .b _ :: .b _ :: .b _ :: .b _ :: .b _ :: .b _ :: .b _ :: .r _ :: .i _ :: .i _ :: [] => true
  | _ => false
noncomputable def hr_I1 (l : List At) : V := match l with
  | .i a :: .i b :: .i c :: .i d :: .i e :: .r f :: .i g :: .i i :: .b j :: .b m :: .b o :: .b p :: .b q :: .b r :: .b s :: .b t :: .r u :: .i v :: .i w :: [] => (V.bool (m_I1 (SParams.mk a b c d e f g i (SMode.mk j m o p q) r s t u v w)))
  | _ => .undef
abbrev args_I1 : List T := [.agg SParams.ts]
noncomputable def c_I1 : CallF R := callHook args_I1 hp_I1 hr_I1
abbrev G_I1 : Prop := Good1 (R := V) Try.prog 47 c_I1
noncomputable def hp_G0 (l : List At) : Bool := match l with
  | .i _ :: .i _ :: .i _ :: .i _ :: .i _ :: .r _ :: .i _ :: .i _ :: .b _ :: .b _ :: .b _ :: .b _ :: .b _ :: .b _ :: .b _ :: .b _ :: .r _ :: .i _ :: .i _ :: [] => true
  | _ => false
noncomputable def hr_G0 (l : List At) : V := match l with
  | .i a :: .i b :: .i c :: .i d :: .i e :: .r f :: .i g :: .i i :: .b j :: .b m :: .b o :: .b p :: .b q :: .b r :: .b s :: .b t :: .r u :: .i v :: .i w :: [] => (V.bool (m_G0 (SParams.mk a b c d e f g i (SMode.mk j m o p q) r s t u v w)))
  | _ => .undef
abbrev args_G0 : List T := [.agg SParams.ts]
noncomputable def c_G0 : CallF R := callHook args_G0 hp_G0 hr_G0
abbrev G_G0 : Prop := Good1 (R := V) Try.prog 48 c_G0
noncomputable def hp_I0 (l : List At) : Bool := match l with
  | .i _ :: [] => true
  | _ => false
noncomputable def hr_I0 (l : List At) : V := match l with
  | .i a :: [] => (V.int .i64 (m_I0 a))
  | _ => .undef
abbrev args_I0 : List T := [.int .i64]
noncomputable def c_I0 : CallF R := callHook args_I0 hp_I0 hr_I0
abbrev G_I0 : Prop := Good1 (R := V) Try.prog 58 c_I0
noncomputable def hp_C1 (l : List At) : Bool := match l with
  | .i _ :: .i _ :: .i _ :: .i _ :: .i _ :: .i _ :: [] => true
  | _ => false
noncomputable def hr_C1 (l : List At) : V := match l with
  | .i a :: .i b :: .i c :: .i d :: .i e :: .i f :: [] => (SRect.v (m_C1 (SRect.mk a b c d) e f))
  | _ => .undef
abbrev args_C1 : List T := [.agg SRect.ts, .int .i64, .int .i64]
noncomputable def c_C1 : CallF R := callHook args_C1 hp_C1 hr_C1
abbrev G_C1 : Prop := Good1 (R := V) Try.prog 60 c_C1
noncomputable def hp_E5 (l : List At) : Bool := match l with
  | .i _ :: .i _ :: .i _ :: .i _ :: .i _ :: .r _ :: .i _ :: .i _ :: .b _ :: .b _ :: .b _ :: .b _ :: .b _ :: .b _ :: .b _ :: .b _ :: .r _ :: .i _ :: .i _ :: .i _ :: [] => true
  | _ => false
noncomputable def hr_E5 (l : List At) : V := match l with
  | .i a :: .i b :: .i c :: .i d :: .i e :: .r f :: .i g :: .i i :: .b j :: .b m :: .b o :: .b p :: .b q :: .b r :: .b s :: .b t :: .r u :: .i v :: .i w :: .i y :: [] => (SPoint.v (m_E5 (SParams.mk a b c d e f g i (SMode.mk j m o p q) r s t u v w) y))
  | _ => .undef
abbrev args_E5 : List T := [.agg SParams.ts, .int .i64]
noncomputable def c_E5 : CallF R := callHook args_E5 hp_E5 hr_E5
abbrev G_E5 : Prop := Good1 (R := V) Try.prog 77 c_E5
noncomputable def hp_J7 (l : List At) : Bool := match l with
  | .i a :: .i b :: .i c :: .i d :: .i e :: .i f :: [] => pre_J7 (SRect.mk a b c d) e f
  | _ => false
noncomputable def hr_J7 (l : List At) : V := match l with
  | .i a :: .i b :: .i c :: .i d :: .i e :: .i f :: [] => (V.int .i64 (m_J7 (SRect.mk a b c d) e f))
  | _ => .undef
abbrev args_J7 : List T := [.agg SRect.ts, .int .i64, .int .i64]
noncomputable def c_J7 : CallF R := callHook args_J7 hp_J7 hr_J7
abbrev G_J7 : Prop := Good1 (R := V) Try.prog 78 c_J7
noncomputable def hp_G1 (l : List At) : Bool := match l with
  | .i a :: .i b :: .i c :: .i d :: .i e :: .i f :: .r g :: .i i :: .i j :: .i m :: .i o :: .i p :: .r q :: .i r :: .i s :: .b t :: .b u :: .b v :: .b w :: .b y :: .b z :: .b A :: .b B :: .r D :: .i E :: .i F :: .i H :: .i I :: .i J :: .i K :: [] => pre_G1 (SHeader.mk (SRect.mk a b c d) e f g) (SParams.mk i j m o p q r s (SMode.mk t u v w y) z A B D E F) (SRect.mk H I J K)
  | _ => false
noncomputable def hr_G1 (l : List At) : V := match l with
  | .i a :: .i b :: .i c :: .i d :: .i e :: .i f :: .r g :: .i i :: .i j :: .i m :: .i o :: .i p :: .r q :: .i r :: .i s :: .b t :: .b u :: .b v :: .b w :: .b y :: .b z :: .b A :: .b B :: .r D :: .i E :: .i F :: .i H :: .i I :: .i J :: .i K :: [] => (V.int .i64 (m_G1 (SHeader.mk (SRect.mk a b c d) e f g) (SParams.mk i j m o p q r s (SMode.mk t u v w y) z A B D E F) (SRect.mk H I J K)))
  | _ => .undef
abbrev args_G1 : List T := [.agg SHeader.ts, .agg SParams.ts, .agg SRect.ts]
noncomputable def c_G1 : CallF R := callHook args_G1 hp_G1 hr_G1
abbrev G_G1 : Prop := Good1 (R := V) Try.prog 49 c_G1
noncomputable def hp_J3 (l : List At) : Bool := match l with
  | .i _ :: .b _ :: [] => true
  | _ => false
noncomputable def hr_J3 (l : List At) : V := match l with
  | .i a :: .b b :: [] => (V.int .i64 (m_J3 a b))
  | _ => .undef
abbrev args_J3 : List T := [.int .i64, .bool]
noncomputable def c_J3 : CallF R := callHook args_J3 hp_J3 hr_J3
abbrev G_J3 : Prop := Good1 (R := V) Try.prog 89 c_J3
noncomputable def hp_H7 (l : List At) : Bool := match l with
  | .i _ :: .i _ :: .i _ :: .i _ :: [] => true
  | _ => false
noncomputable def hr_H7 (l : List At) : V := match l with
  | .i a :: .i b :: .i c :: .i d :: [] => (SA4_Rect.v (m_H7 (SRect.mk a b c d)))
  | _ => .undef
abbrev args_H7 : List T := [.agg SRect.ts]
noncomputable def c_H7 : CallF R := callHook args_H7 hp_H7 hr_H7
abbrev G_H7 : Prop := Good1 (R := V) Try.prog 62 c_H7
noncomputable def hp_I5 (l : List At) : Bool := match l with
  | .i _ :: .i _ :: [] => true
  | _ => false
noncomputable def hr_I5 (l : List At) : V := match l with
  | .i a :: .i b :: [] => (V.tup [(V.int .i64 (m_I5 a b).1), (V.int .i64 (m_I5 a b).2.1), (V.bool (m_I5 a b).2.2)])
  | _ => .undef
abbrev args_I5 : List T := [.int .i64, .int .i64]
noncomputable def c_I5 : CallF R := callHook args_I5 hp_I5 hr_I5
abbrev G_I5 : Prop := Good1 (R := V) Try.prog 98 c_I5
noncomputable def hp_J5 (l : List At) : Bool := match l with
  | .i _ :: .i _ :: .i _ :: .i _ :: .i _ :: .i _ :: [] => true
  | _ => false
noncomputable def hr_J5 (l : List At) : V := match l with
  | .i a :: .i b :: .i c :: .i d :: .i e :: .i f :: [] => (SRect.v (m_J5 (SRect.mk a b c d) e f))
  | _ => .undef
abbrev args_J5 : List T := [.agg SRect.ts, .int .i64, .int .i64]
noncomputable def c_J5 : CallF R := callHook args_J5 hp_J5 hr_J5
abbrev G_J5 : Prop := Good1 (R := V) Try.prog 79 c_J5
noncomputable def hp_G8 (l : List At) : Bool := match l with
  | .i a :: .i b :: .i c :: .i d :: .i e :: .i f :: .r g :: .i i :: .i j :: .i m :: .i o :: .i p :: .r q :: .i r :: .i s :: .b t :: .b u :: .b v :: .b w :: .b y :: .b z :: .b A :: .b B :: .r D :: .i E :: .i F :: .i H :: .i I :: .i J :: .i K :: [] => pre_G8 (SHeader.mk (SRect.mk a b c d) e f g) (SParams.mk i j m o p q r s (SMode.mk t u v w y) z A B D E F) (SRect.mk H I J K)
  | _ => false
noncomputable def hr_G8 (l : List At) : V := match l with
  | .i a :: .i b :: .i c :: .i d :: .i e :: .i f :: .r g :: .i i :: .i j :: .i m :: .i o :: .i p :: .r q :: .i r :: .i s :: .b t :: .b u :: .b v :: .b w :: .b y :: .b z :: .b A :: .b B :: .r D :: .i E :: .i F :: .i H :: .i I :: .i J :: .i K :: [] => (V.int .i64 (m_G8 (SHeader.mk (SRect.mk a b c d) e f g) (SParams.mk i j m o p q r s (SMode.mk t u v w y) z A B D E F) (SRect.mk H I J K)))
  | _ => .undef
abbrev args_G8 : List T := [.agg SHeader.ts, .agg SParams.ts, .agg SRect.ts]
noncomputable def c_G8 : CallF R := callHook args_G8 hp_G8 hr_G8
abbrev G_G8 : Prop := Good1 (R := V) Try.prog 50 c_G8
noncomputable def hp_I6 (l : List At) : Bool := match l with
  | .i _ :: .i _ :: .i _ :: .i _ :: .i _ :: .i _ :: .r _ :: .i _ :: .i _ :: .i _ :: .i _ :: .i _ :: .r _ :: .i _ :: .i _ :: .b _ :: .b _ :: .b _ :: .b _ :: .b _ :: .b _ :: .b _ :: .b _ :: .r _ :: .i _ :: .i _ :: [] => true
  | _ => false
noncomputable def hr_I6 (l : List At) : V := match l with
  | .i a :: .i b :: .i c :: .i d :: .i e :: .i f :: .r g :: .i i :: .i j :: .i m :: .i o :: .i p :: .r q :: .i r :: .i s :: .b t :: .b u :: .b v :: .b w :: .b y :: .b z :: .b A :: .b B :: .r D :: .i E :: .i F :: [] => (V.int .i64 (m_I6 (SHeader.mk (SRect.mk a b c d) e f g) (SParams.mk i j m o p q r s (SMode.mk t u v w y) z A B D E F)))
  | _ => .undef
abbrev args_I6 : List T := [.agg SHeader.ts, .agg SParams.ts]
noncomputable def c_I6 : CallF R := callHook args_I6 hp_I6 hr_I6
abbrev G_I6 : Prop := Good1 (R := V) Try.prog 21 c_I6
noncomputable def hp_D5 (l : List At) : Bool := match l with
  | .i _ :: .i _ :: .i _ :: .i _ :: .i _ :: .i _ :: .r _ :: .i _ :: .i _ :: .i _ :: .i _ :: .i _ :: .r _ :: .i _ :: .i _ :: .b _ :: .b _ :: .b _ :: .b _ :: .b _ :: .b _ :: .b _ :: .b _ :: .r _ :: .i _ :: .i _ :: .i _ :: .i _ :: [] => true
  | _ => false
noncomputable def hr_D5 (l : List At) : V := match l with
  | .i a :: .i b :: .i c :: .i d :: .i e :: .i f :: .r g :: .i i :: .i j :: .i m :: .i o :: .i p :: .r q :: .i r :: .i s :: .b t :: .b u :: .b v :: .b w :: .b y :: .b z :: .b A :: .b B :: .r D :: .i E :: .i F :: .i H :: .i I :: [] => (V.bool (m_D5 (SHeader.mk (SRect.mk a b c d) e f g) (SParams.mk i j m o p q r s (SMode.mk t u v w y) z A B D E F) H I))
  | _ => .undef
abbrev args_D5 : List T := [.agg SHeader.ts, .agg SParams.ts, .int .i64, .int .i64]
noncomputable def c_D5 : CallF R := callHook args_D5 hp_D5 hr_D5
abbrev G_D5 : Prop := Good1 (R := V) Try.prog 51 c_D5
noncomputable def hp_F5 (l : List At) : Bool := match l with
  | .i a :: .i b :: .i c :: .i d :: .i e :: .i f :: .r g :: .i i :: .i j :: .i m :: .i o :: .i p :: .r q :: .i r :: .i s :: .b t :: .b u :: .b v :: .b w :: .b y :: .b z :: .b A :: .b B :: .r D :: .i E :: .i F :: .i H :: [] => pre_F5 (SHeader.mk (SRect.mk a b c d) e f g) (SParams.mk i j m o p q r s (SMode.mk t u v w y) z A B D E F) H
  | _ => false
noncomputable def hr_F5 (l : List At) : V := match l with
  | .i a :: .i b :: .i c :: .i d :: .i e :: .i f :: .r g :: .i i :: .i j :: .i m :: .i o :: .i p :: .r q :: .i r :: .i s :: .b t :: .b u :: .b v :: .b w :: .b y :: .b z :: .b A :: .b B :: .r D :: .i E :: .i F :: .i H :: [] => (V.int .i64 (m_F5 (SHeader.mk (SRect.mk a b c d) e f g) (SParams.mk i j m o p q r s (SMode.mk t u v w y) z A B D E F) H))
  | _ => .undef
abbrev args_F5 : List T := [.agg SHeader.ts, .agg SParams.ts, .int .i64]
noncomputable def c_F5 : CallF R := callHook args_F5 hp_F5 hr_F5
abbrev G_F5 : Prop := Good1 (R := V) Try.prog 22 c_F5
noncomputable def hp_J9 (l : List At) : Bool := match l with
  | .i _ :: .i _ :: .i _ :: .i _ :: .i _ :: .i _ :: .r _ :: .i _ :: .i _ :: .i _ :: .i _ :: .i _ :: .r _ :: .i _ :: .i _ :: .b _ :: .b _ :: .b _ :: .b _ :: .b _ :: .b _ :: .b _ :: .b _ :: .r _ :: .i _ :: .i _ :: [] => true
  | _ => false
noncomputable def hr_J9 (l : List At) : V := match l with
  | .i a :: .i b :: .i c :: .i d :: .i e :: .i f :: .r g :: .i i :: .i j :: .i m :: .i o :: .i p :: .r q :: .i r :: .i s :: .b t :: .b u :: .b v :: .b w :: .b y :: .b z :: .b A :: .b B :: .r D :: .i E :: .i F :: [] => (V.bool (m_J9 (SHeader.mk (SRect.mk a b c d) e f g) (SParams.mk i j m o p q r s (SMode.mk t u v w y) z A B D E F)))
  | _ => .undef
abbrev args_J9 : List T := [.agg SHeader.ts, .agg SParams.ts]
noncomputable def c_J9 : CallF R := callHook args_J9 hp_J9 hr_J9
abbrev G_J9 : Prop := Good1 (R := V) Try.prog 11 c_J9
noncomputable def hp_H1 (l : List At) : Bool := match l with
  | .i _ :: .i _ :: .i _ :: .i _ :: [] => true
  | _ => false
noncomputable def hr_H1 (l : List At) : V := match l with
  | .i a :: .i b :: .i c :: .i d :: [] => (V.bool (m_H1 (SRect.mk a b c d)))
  | _ => .undef
abbrev args_H1 : List T := [.agg SRect.ts]
noncomputable def c_H1 : CallF R := callHook args_H1 hp_H1 hr_H1
abbrev G_H1 : Prop := Good1 (R := V) Try.prog 34 c_H1
noncomputable def hp_H2 (l : List At) : Bool := match l with
  | .i _ :: .i _ :: .i _ :: .i _ :: [] => true
  | _ => false
noncomputable def hr_H2 (l : List At) : V := match l with
  | .i a :: .i b :: .i c :: .i d :: [] => (V.bool (m_H2 (SRect.mk a b c d)))
  | _ => .undef
abbrev args_H2 : List T := [.agg SRect.ts]
noncomputable def c_H2 : CallF R := callHook args_H2 hp_H2 hr_H2
abbrev G_H2 : Prop := Good1 (R := V) Try.prog 35 c_H2
noncomputable def hp_E3 (l : List At) : Bool := match l with
  | .i _ :: .i _ :: [] => true
  | _ => false
noncomputable def hr_E3 (l : List At) : V := match l with
  | .i a :: .i b :: [] => (V.int .i64 (m_E3 a b))
  | _ => .undef
abbrev args_E3 : List T := [.int .i64, .int .i64]
noncomputable def c_E3 : CallF R := callHook args_E3 hp_E3 hr_E3
abbrev G_E3 : Prop := Good1 (R := V) Try.prog 66 c_E3
noncomputable def hp_F4 (l : List At) : Bool := match l with
  | .i _ :: .i _ :: .i _ :: .i _ :: .i _ :: .i _ :: [] => true
  | _ => false
noncomputable def hr_F4 (l : List At) : V := match l with
  | .i a :: .i b :: .i c :: .i d :: .i e :: .i f :: [] => (SRect.v (m_F4 (SRect.mk a b c d) e f))
  | _ => .undef
abbrev args_F4 : List T := [.agg SRect.ts, .int .i64, .int .i64]
noncomputable def c_F4 : CallF R := callHook args_F4 hp_F4 hr_F4
abbrev G_F4 : Prop := Good1 (R := V) Try.prog 54 c_F4
noncomputable def hp_D8 (l : List At) : Bool := match l with
  | .i a :: .i b :: .r c :: [] => pre_D8 a b c
  | _ => false
noncomputable def hr_D8 (l : List At) : V := match l with
  | .i a :: .i b :: .r c :: [] => (V.bool (m_D8 a b c))
  | _ => .undef
abbrev args_D8 : List T := [.int .i64, .int .i64, .data [.int .i64]]
noncomputable def c_D8 : CallF R := callHook args_D8 hp_D8 hr_D8
abbrev G_D8 : Prop := Good1 (R := V) Try.prog 65 c_D8
noncomputable def hp_D1 (l : List At) : Bool := match l with
  | .i _ :: .i _ :: [] => true
  | _ => false
noncomputable def hr_D1 (l : List At) : V := match l with
  | .i a :: .i b :: [] => (V.int .i64 (m_D1 a b))
  | _ => .undef
abbrev args_D1 : List T := [.int .i64, .int .i64]
noncomputable def c_D1 : CallF R := callHook args_D1 hp_D1 hr_D1
abbrev G_D1 : Prop := Good1 (R := V) Try.prog 67 c_D1
noncomputable def hp_H9 (l : List At) : Bool := match l with
  | .i _ :: .i _ :: .i _ :: .i _ :: [] => true
  | _ => false
noncomputable def hr_H9 (l : List At) : V := match l with
  | .i a :: .i b :: .i c :: .i d :: [] => (V.int .i64 (m_H9 (SRect.mk a b c d)))
  | _ => .undef
abbrev args_H9 : List T := [.agg SRect.ts]
noncomputable def c_H9 : CallF R := callHook args_H9 hp_H9 hr_H9
abbrev G_H9 : Prop := Good1 (R := V) Try.prog 68 c_H9
noncomputable def hp_C9 (l : List At) : Bool := match l with
  | .i _ :: .i _ :: .i _ :: .i _ :: .i _ :: .i _ :: .r _ :: [] => true
  | _ => false
noncomputable def hr_C9 (l : List At) : V := match l with
  | .i a :: .i b :: .i c :: .i d :: .i e :: .i f :: .r g :: [] => (V.int .i64 (m_C9 (SHeader.mk (SRect.mk a b c d) e f g)))
  | _ => .undef
abbrev args_C9 : List T := [.agg SHeader.ts]
noncomputable def c_C9 : CallF R := callHook args_C9 hp_C9 hr_C9
abbrev G_C9 : Prop := Good1 (R := V) Try.prog 33 c_C9
noncomputable def hp_C6 (l : List At) : Bool := match l with
  | .i _ :: .i _ :: .i _ :: .i _ :: .i _ :: .i _ :: .i _ :: .i _ :: [] => true
  | _ => false
noncomputable def hr_C6 (l : List At) : V := match l with
  | .i a :: .i b :: .i c :: .i d :: .i e :: .i f :: .i g :: .i i :: [] => (SRect.v (m_C6 (SRect.mk a b c d) (SRect.mk e f g i)))
  | _ => .undef
abbrev args_C6 : List T := [.agg SRect.ts, .agg SRect.ts]
noncomputable def c_C6 : CallF R := callHook args_C6 hp_C6 hr_C6
abbrev G_C6 : Prop := Good1 (R := V) Try.prog 36 c_C6
noncomputable def hp_G5 (l : List At) : Bool := match l with
  | .i _ :: .i _ :: .i _ :: .i _ :: .i _ :: .i _ :: [] => true
  | _ => false
noncomputable def hr_G5 (l : List At) : V := match l with
  | .i a :: .i b :: .i c :: .i d :: .i e :: .i f :: [] => (V.data SRect.sh (m_G5 (SRect.mk a b c d) e f))
  | _ => .undef
abbrev args_G5 : List T := [.agg SRect.ts, .int .i64, .int .i64]
noncomputable def c_G5 : CallF R := callHook args_G5 hp_G5 hr_G5
abbrev G_G5 : Prop := Good1 (R := V) Try.prog 55 c_G5
noncomputable def hp_E7 (l : List At) : Bool := match l with
  | .i _ :: .i _ :: .i _ :: .i _ :: .i _ :: .i _ :: .r _ :: [] => true
  | _ => false
noncomputable def hr_E7 (l : List At) : V := match l with
  | .i a :: .i b :: .i c :: .i d :: .i e :: .i f :: .r g :: [] => (V.data SRect.sh (m_E7 (SHeader.mk (SRect.mk a b c d) e f g)))
  | _ => .undef
abbrev args_E7 : List T := [.agg SHeader.ts]
noncomputable def c_E7 : CallF R := callHook args_E7 hp_E7 hr_E7
abbrev G_E7 : Prop := Good1 (R := V) Try.prog 24 c_E7
noncomputable def hp_C5 (l : List At) : Bool := match l with
  | .i _ :: .i _ :: .i _ :: .i _ :: .i _ :: .i _ :: .r _ :: .i _ :: .i _ :: .i _ :: .i _ :: .i _ :: .r _ :: .i _ :: .i _ :: .b _ :: .b _ :: .b _ :: .b _ :: .b _ :: .b _ :: .b _ :: .b _ :: .r _ :: .i _ :: .i _ :: [] => true
  | _ => false
noncomputable def hr_C5 (l : List At) : V := match l with
  | .i a :: .i b :: .i c :: .i d :: .i e :: .i f :: .r g :: .i i :: .i j :: .i m :: .i o :: .i p :: .r q :: .i r :: .i s :: .b t :: .b u :: .b v :: .b w :: .b y :: .b z :: .b A :: .b B :: .r D :: .i E :: .i F :: [] => (V.bool (m_C5 (SHeader.mk (SRect.mk a b c d) e f g) (SParams.mk i j m o p q r s (SMode.mk t u v w y) z A B D E F)))
  | _ => .undef
abbrev args_C5 : List T := [.agg SHeader.ts, .agg SParams.ts]
noncomputable def c_C5 : CallF R := callHook args_C5 hp_C5 hr_C5
abbrev G_C5 : Prop := Good1 (R := V) Try.prog 80 c_C5
noncomputable def hp_A4 (l : List At) : Bool := match l with
  | .i _ :: [] => true
  | _ => false
noncomputable def hr_A4 (l : List At) : V := match l with
  | .i a :: [] => (V.bool (m_A4 a))
  | _ => .undef
abbrev args_A4 : List T := [.int .i64]
noncomputable def c_A4 : CallF R := callHook args_A4 hp_A4 hr_A4
abbrev G_A4 : Prop := Good1 (R := V) Try.prog 86 c_A4
noncomputable def hp_A6 (l : List At) : Bool := match l with
  | .i _ :: .i _ :: .i _ :: .i _ :: .i _ :: .i _ :: [] => true
  | _ => false
noncomputable def hr_A6 (l : List At) : V := match l with
  | .i a :: .i b :: .i c :: .i d :: .i e :: .i f :: [] => (SRect.v (m_A6 (SRect.mk a b c d) e f))
  | _ => .undef
abbrev args_A6 : List T := [.agg SRect.ts, .int .i64, .int .i64]
noncomputable def c_A6 : CallF R := callHook args_A6 hp_A6 hr_A6
abbrev G_A6 : Prop := Good1 (R := V) Try.prog 69 c_A6
noncomputable def hp_B5 (l : List At) : Bool := match l with
  | .i _ :: .i _ :: .i _ :: .i _ :: .i _ :: .r _ :: .i _ :: .i _ :: .b _ :: .b _ :: .b _ :: .b _ :: .b _ :: .b _ :: .b _ :: .b _ :: .r _ :: .i _ :: .i _ :: .i _ :: [] => true
  | _ => false
noncomputable def hr_B5 (l : List At) : V := match l with
  | .i a :: .i b :: .i c :: .i d :: .i e :: .r f :: .i g :: .i i :: .b j :: .b m :: .b o :: .b p :: .b q :: .b r :: .b s :: .b t :: .r u :: .i v :: .i w :: .i y :: [] => (SPoint.v (m_B5 (SParams.mk a b c d e f g i (SMode.mk j m o p q) r s t u v w) y))
  | _ => .undef
abbrev args_B5 : List T := [.agg SParams.ts, .int .i64]
noncomputable def c_B5 : CallF R := callHook args_B5 hp_B5 hr_B5
abbrev G_B5 : Prop := Good1 (R := V) Try.prog 70 c_B5
noncomputable def hp_B4 (l : List At) : Bool := match l with
  | .i _ :: .i _ :: [] => true
  | _ => false
noncomputable def hr_B4 (l : List At) : V := match l with
  | .i a :: .i b :: [] => (V.data [.int .i64] (m_B4 a b))
  | _ => .undef
abbrev args_B4 : List T := [.int .i64, .int .i64]
noncomputable def c_B4 : CallF R := callHook args_B4 hp_B4 hr_B4
abbrev G_B4 : Prop := Good1 (R := V) Try.prog 74 c_B4
noncomputable def hp_J1 (l : List At) : Bool := match l with
  | .i _ :: .i _ :: .i _ :: .i _ :: [] => true
  | _ => false
noncomputable def hr_J1 (l : List At) : V := match l with
  | .i a :: .i b :: .i c :: .i d :: [] => (SA4_Rect.v (m_J1 (SRect.mk a b c d)))
  | _ => .undef
abbrev args_J1 : List T := [.agg SRect.ts]
noncomputable def c_J1 : CallF R := callHook args_J1 hp_J1 hr_J1
abbrev G_J1 : Prop := Good1 (R := V) Try.prog 88 c_J1
noncomputable def hp_D9 (l : List At) : Bool := match l with
  | .i _ :: [] => true
  | _ => false
noncomputable def hr_D9 (l : List At) : V := match l with
  | .i a :: [] => (V.int .i64 (m_D9 a))
  | _ => .undef
abbrev args_D9 : List T := [.int .i64]
noncomputable def c_D9 : CallF R := callHook args_D9 hp_D9 hr_D9
abbrev G_D9 : Prop := Good1 (R := V) Try.prog 87 c_D9
noncomputable def hp_D6 (l : List At) : Bool := match l with
  | .i _ :: .i _ :: [] => true
  | _ => false
noncomputable def hr_D6 (l : List At) : V := match l with
  | .i a :: .i b :: [] => (V.tup [(V.int .i64 (m_D6 a b).1), (V.int .i64 (m_D6 a b).2.1), (V.bool (m_D6 a b).2.2)])
  | _ => .undef
abbrev args_D6 : List T := [.int .i64, .int .i64]
noncomputable def c_D6 : CallF R := callHook args_D6 hp_D6 hr_D6
abbrev G_D6 : Prop := Good1 (R := V) Try.prog 94 c_D6
noncomputable def hp_F1 (l : List At) : Bool := match l with
  | .i _ :: .i _ :: .i _ :: .i _ :: .i _ :: .i _ :: [] => true
  | _ => false
noncomputable def hr_F1 (l : List At) : V := match l with
  | .i a :: .i b :: .i c :: .i d :: .i e :: .i f :: [] => (SRect.v (m_F1 (SRect.mk a b c d) e f))
  | _ => .undef
abbrev args_F1 : List T := [.agg SRect.ts, .int .i64, .int .i64]
noncomputable def c_F1 : CallF R := callHook args_F1 hp_F1 hr_F1
abbrev G_F1 : Prop := Good1 (R := V) Try.prog 96 c_F1
noncomputable def hp_E4 (l : List At) : Bool := match l with
  | .i _ :: .i _ :: .i _ :: .i _ :: .i _ :: .i _ :: [] => true
  | _ => false
noncomputable def hr_E4 (l : List At) : V := match l with
  | .i a :: .i b :: .i c :: .i d :: .i e :: .i f :: [] => (V.int .i64 (m_E4 (SRect.mk a b c d) e f))
  | _ => .undef
abbrev args_E4 : List T := [.agg SRect.ts, .int .i64, .int .i64]
noncomputable def c_E4 : CallF R := callHook args_E4 hp_E4 hr_E4
abbrev G_E4 : Prop := Good1 (R := V) Try.prog 99 c_E4
noncomputable def hp_B9 (l : List At) : Bool := match l with
  | .i a :: .i b :: .i c :: .i d :: .i e :: .i f :: .r g :: .i i :: .i j :: .i m :: .i o :: .i p :: .r q :: .i r :: .i s :: .b t :: .b u :: .b v :: .b w :: .b y :: .b z :: .b A :: .b B :: .r D :: .i E :: .i F :: .i H :: .i I :: .i J :: .i K :: [] => pre_B9 (SHeader.mk (SRect.mk a b c d) e f g) (SParams.mk i j m o p q r s (SMode.mk t u v w y) z A B D E F) (SRect.mk H I J K)
  | _ => false
noncomputable def hr_B9 (l : List At) : V := match l with
  | .i a :: .i b :: .i c :: .i d :: .i e :: .i f :: .r g :: .i i :: .i j :: .i m :: .i o :: .i p :: .r q :: .i r :: .i s :: .b t :: .b u :: .b v :: .b w :: .b y :: .b z :: .b A :: .b B :: .r D :: .i E :: .i F :: .i H :: .i I :: .i J :: .i K :: [] => (V.bool (m_B9 (SHeader.mk (SRect.mk a b c d) e f g) (SParams.mk i j m o p q r s (SMode.mk t u v w y) z A B D E F) (SRect.mk H I J K)))
  | _ => .undef
abbrev args_B9 : List T := [.agg SHeader.ts, .agg SParams.ts, .agg SRect.ts]
noncomputable def c_B9 : CallF R := callHook args_B9 hp_B9 hr_B9
abbrev G_B9 : Prop := Good1 (R := V) Try.prog 81 c_B9
noncomputable def hp_E2 (l : List At) : Bool := match l with
  | .i _ :: .i _ :: .i _ :: .i _ :: .i _ :: .i _ :: .r _ :: .i _ :: .i _ :: .i _ :: .i _ :: .i _ :: .r _ :: .i _ :: .i _ :: .b _ :: .b _ :: .b _ :: .b _ :: .b _ :: .b _ :: .b _ :: .b _ :: .r _ :: .i _ :: .i _ :: [] => true
  | _ => false
noncomputable def hr_E2 (l : List At) : V := match l with
  | .i a :: .i b :: .i c :: .i d :: .i e :: .i f :: .r g :: .i i :: .i j :: .i m :: .i o :: .i p :: .r q :: .i r :: .i s :: .b t :: .b u :: .b v :: .b w :: .b y :: .b z :: .b A :: .b B :: .r D :: .i E :: .i F :: [] => (V.int .i64 (m_E2 (SHeader.mk (SRect.mk a b c d) e f g) (SParams.mk i j m o p q r s (SMode.mk t u v w y) z A B D E F)))
  | _ => .undef
abbrev args_E2 : List T := [.agg SHeader.ts, .agg SParams.ts]
noncomputable def c_E2 : CallF R := callHook args_E2 hp_E2 hr_E2
abbrev G_E2 : Prop := Good1 (R := V) Try.prog 52 c_E2
noncomputable def hp_D7 (l : List At) : Bool := match l with
  | .i _ :: .i _ :: .i _ :: .i _ :: .i _ :: .i _ :: .r _ :: .i _ :: .i _ :: .i _ :: .i _ :: .i _ :: .r _ :: .i _ :: .i _ :: .b _ :: .b _ :: .b _ :: .b _ :: .b _ :: .b _ :: .b _ :: .b _ :: .r _ :: .i _ :: .i _ :: .i _ :: .i _ :: [] => true
  | _ => false
noncomputable def hr_D7 (l : List At) : V := match l with
  | .i a :: .i b :: .i c :: .i d :: .i e :: .i f :: .r g :: .i i :: .i j :: .i m :: .i o :: .i p :: .r q :: .i r :: .i s :: .b t :: .b u :: .b v :: .b w :: .b y :: .b z :: .b A :: .b B :: .r D :: .i E :: .i F :: .i H :: .i I :: [] => (V.bool (m_D7 (SHeader.mk (SRect.mk a b c d) e f g) (SParams.mk i j m o p q r s (SMode.mk t u v w y) z A B D E F) H I))
  | _ => .undef
abbrev args_D7 : List T := [.agg SHeader.ts, .agg SParams.ts, .int .i64, .int .i64]
noncomputable def c_D7 : CallF R := callHook args_D7 hp_D7 hr_D7
abbrev G_D7 : Prop := Good1 (R := V) Try.prog 38 c_D7
noncomputable def hp_B0 (l : List At) : Bool := match l with
  | .i _ :: .i _ :: .i _ :: .i _ :: .i _ :: .i _ :: .r _ :: .i _ :: .i _ :: [] => true
  | _ => false
noncomputable def hr_B0 (l : List At) : V := match l with
  | .i a :: .i b :: .i c :: .i d :: .i e :: .i f :: .r g :: .i i :: .i j :: [] => (SRect.v (m_B0 (SHeader.mk (SRect.mk a b c d) e f g) i j))
  | _ => .undef
abbrev args_B0 : List T := [.agg SHeader.ts, .int .i64, .int .i64]
noncomputable def c_B0 : CallF R := callHook args_B0 hp_B0 hr_B0
abbrev G_B0 : Prop := Good1 (R := V) Try.prog 57 c_B0
noncomputable def hp_A5 (l : List At) : Bool := match l with
  | .i _ :: .i _ :: .i _ :: [] => true
  | _ => false
noncomputable def hr_A5 (l : List At) : V := match l with
  | .i a :: .i b :: .i c :: [] => (V.bool (m_A5 a b c))
  | _ => .undef
abbrev args_A5 : List T := [.int .i64, .int .i64, .int .i64]
noncomputable def c_A5 : CallF R := callHook args_A5 hp_A5 hr_A5
abbrev G_A5 : Prop := Good1 (R := V) Try.prog 102 c_A5
noncomputable def hp_C2 (l : List At) : Bool := match l with
  | .i _ :: .i _ :: .i _ :: [] => true
  | _ => false
noncomputable def hr_C2 (l : List At) : V := match l with
  | .i a :: .i b :: .i c :: [] => (V.tup [(V.int .i64 (m_C2 a b c).1), (V.int .i64 (m_C2 a b c).2)])
  | _ => .undef
abbrev args_C2 : List T := [.int .i64, .int .i64, .int .i64]
noncomputable def c_C2 : CallF R := callHook args_C2 hp_C2 hr_C2
abbrev G_C2 : Prop := Good1 (R := V) Try.prog 103 c_C2
noncomputable def hp_C3 (l : List At) : Bool := match l with
  | .i _ :: .i _ :: .i _ :: .i _ :: .i _ :: .i _ :: .i _ :: [] => true
  | _ => false
noncomputable def hr_C3 (l : List At) : V := match l with
  | .i a :: .i b :: .i c :: .i d :: .i e :: .i f :: .i g :: [] => (V.tup [(V.int .i64 (m_C3 (SRect.mk a b c d) e f g).1), (V.int .i64 (m_C3 (SRect.mk a b c d) e f g).2.1), (V.int .i64 (m_C3 (SRect.mk a b c d) e f g).2.2.1), (V.int .i64 (m_C3 (SRect.mk a b c d) e f g).2.2.2)])
  | _ => .undef
abbrev args_C3 : List T := [.agg SRect.ts, .int .i64, .int .i64, .int .i64]
noncomputable def c_C3 : CallF R := callHook args_C3 hp_C3 hr_C3
abbrev G_C3 : Prop := Good1 (R := V) Try.prog 93 c_C3
noncomputable def hp_A3 (l : List At) : Bool := match l with
  | .i _ :: .i _ :: .i _ :: .i _ :: .i _ :: .i _ :: [] => true
  | _ => false
noncomputable def hr_A3 (l : List At) : V := match l with
  | .i a :: .i b :: .i c :: .i d :: .i e :: .i f :: [] => (V.tup [(V.int .i64 (m_A3 (SRect.mk a b c d) e f).1), (V.int .i64 (m_A3 (SRect.mk a b c d) e f).2)])
  | _ => .undef
abbrev args_A3 : List T := [.agg SRect.ts, .int .i64, .int .i64]
noncomputable def c_A3 : CallF R := callHook args_A3 hp_A3 hr_A3
abbrev G_A3 : Prop := Good1 (R := V) Try.prog 71 c_A3
noncomputable def hp_A8 (l : List At) : Bool := match l with
  | .i _ :: .i _ :: .i _ :: .i _ :: .i _ :: .i _ :: .r _ :: .i _ :: .i _ :: .i _ :: .i _ :: .i _ :: .r _ :: .i _ :: .i _ :: .b _ :: .b _ :: .b _ :: .b _ :: .b _ :: .b _ :: .b _ :: .b _ :: .r _ :: .i _ :: .i _ :: .i _ :: .i _ :: .i _ :: [] => true
  | _ => false
noncomputable def hr_A8 (l : List At) : V := match l with
  | .i a :: .i b :: .i c :: .i d :: .i e :: .i f :: .r g :: .i i :: .i j :: .i m :: .i o :: .i p :: .r q :: .i r :: .i s :: .b t :: .b u :: .b v :: .b w :: .b y :: .b z :: .b A :: .b B :: .r D :: .i E :: .i F :: .i H :: .i I :: .i J :: [] => (V.tup [(SRect.v (m_A8 (SHeader.mk (SRect.mk a b c d) e f g) (SParams.mk i j m o p q r s (SMode.mk t u v w y) z A B D E F) H I J).1), (V.int .i64 (m_A8 (SHeader.mk (SRect.mk a b c d) e f g) (SParams.mk i j m o p q r s (SMode.mk t u v w y) z A B D E F) H I J).2.1), (V.int .i64 (m_A8 (SHeader.mk (SRect.mk a b c d) e f g) (SParams.mk i j m o p q r s (SMode.mk t u v w y) z A B D E F) H I J).2.2)])
  | _ => .undef
abbrev args_A8 : List T := [.agg SHeader.ts, .agg SParams.ts, .int .i64, .int .i64, .int .i64]
noncomputable def c_A8 : CallF R := callHook args_A8 hp_A8 hr_A8
abbrev G_A8 : Prop := Good1 (R := V) Try.prog 39 c_A8
noncomputable def hp_F8 (l : List At) : Bool := match l with
  | .r a :: [] => pre_F8 a
  | _ => false
noncomputable def hr_F8 (l : List At) : V := match l with
  | .r a :: [] => (V.data SBlockID.sh (m_F8 a))
  | _ => .undef
abbrev args_F8 : List T := [.data [.sl SBlockID.sh]]
noncomputable def c_F8 : CallF R := callHook args_F8 hp_F8 hr_F8
abbrev G_F8 : Prop := Good1 (R := V) Try.prog 41 c_F8
noncomputable def hp_B6 (l : List At) : Bool := match l with
  | .i _ :: .i _ :: .i _ :: .i _ :: .i _ :: .i _ :: .i _ :: [] => true
  | _ => false
noncomputable def hr_B6 (l : List At) : V := match l with
  | .i a :: .i b :: .i c :: .i d :: .i e :: .i f :: .i g :: [] => (V.tup [(V.int .i64 (m_B6 (SRect.mk a b c d) e f g).1), (V.int .i64 (m_B6 (SRect.mk a b c d) e f g).2.1), (V.bool (m_B6 (SRect.mk a b c d) e f g).2.2)])
  | _ => .undef
abbrev args_B6 : List T := [.agg SRect.ts, .int .i64, .int .i64, .int .i64]
noncomputable def c_B6 : CallF R := callHook args_B6 hp_B6 hr_B6
abbrev G_B6 : Prop := Good1 (R := V) Try.prog 104 c_B6
noncomputable def hp_C8 (l : List At) : Bool := match l with
  | .i _ :: .i _ :: .i _ :: .i _ :: [] => true
  | _ => false
noncomputable def hr_C8 (l : List At) : V := match l with
  | .i a :: .i b :: .i c :: .i d :: [] => (SRect.v (m_C8 a b c d))
  | _ => .undef
abbrev args_C8 : List T := [.int .i64, .int .i64, .int .i64, .int .i64]
noncomputable def c_C8 : CallF R := callHook args_C8 hp_C8 hr_C8
abbrev G_C8 : Prop := Good1 (R := V) Try.prog 105 c_C8
noncomputable def hp_B1 (l : List At) : Bool := match l with
  | .i _ :: .i _ :: .i _ :: .i _ :: .i _ :: .i _ :: .i _ :: .i _ :: .i _ :: .i _ :: .i _ :: .i _ :: [] => true
  | _ => false
noncomputable def hr_B1 (l : List At) : V := match l with
  | .i a :: .i b :: .i c :: .i d :: .i e :: .i f :: .i g :: .i i :: .i j :: .i m :: .i o :: .i p :: [] => (V.tup [(SRect.v (m_B1 (SRect.mk a b c d) (SRect.mk e f g i) j m o p).1), (V.bool (m_B1 (SRect.mk a b c d) (SRect.mk e f g i) j m o p).2)])
  | _ => .undef
abbrev args_B1 : List T := [.agg SRect.ts, .agg SRect.ts, .int .i64, .int .i64, .int .i64, .int .i64]
noncomputable def c_B1 : CallF R := callHook args_B1 hp_B1 hr_B1
abbrev G_B1 : Prop := Good1 (R := V) Try.prog 95 c_B1
noncomputable def hp_A9 (l : List At) : Bool := match l with
  | .i _ :: .i _ :: .i _ :: .i _ :: .i _ :: .i _ :: [] => true
  | _ => false
noncomputable def hr_A9 (l : List At) : V := match l with
  | .i a :: .i b :: .i c :: .i d :: .i e :: .i f :: [] => (V.tup [(V.int .i64 (m_A9 (SRect.mk a b c d) e f).1), (V.int .i64 (m_A9 (SRect.mk a b c d) e f).2.1), (V.data SRect.sh (m_A9 (SRect.mk a b c d) e f).2.2)])
  | _ => .undef
abbrev args_A9 : List T := [.agg SRect.ts, .int .i64, .int .i64]
noncomputable def c_A9 : CallF R := callHook args_A9 hp_A9 hr_A9
abbrev G_A9 : Prop := Good1 (R := V) Try.prog 97 c_A9
noncomputable def hp_F3 (l : List At) : Bool := match l with
  | .i _ :: .i _ :: .i _ :: .i _ :: .i _ :: .i _ :: .r _ :: .i _ :: .i _ :: .i _ :: .i _ :: .i _ :: .r _ :: .i _ :: .i _ :: .b _ :: .b _ :: .b _ :: .b _ :: .b _ :: .b _ :: .b _ :: .b _ :: .r _ :: .i _ :: .i _ :: .i _ :: .i _ :: .i _ :: .i _ :: [] => true
  | _ => false
noncomputable def hr_F3 (l : List At) : V := match l with
  | .i a :: .i b :: .i c :: .i d :: .i e :: .i f :: .r g :: .i i :: .i j :: .i m :: .i o :: .i p :: .r q :: .i r :: .i s :: .b t :: .b u :: .b v :: .b w :: .b y :: .b z :: .b A :: .b B :: .r D :: .i E :: .i F :: .i H :: .i I :: .i J :: .i K :: [] => (Slayout_part.v (m_F3 (SHeader.mk (SRect.mk a b c d) e f g) (SParams.mk i j m o p q r s (SMode.mk t u v w y) z A B D E F) H I J K))
  | _ => .undef
abbrev args_F3 : List T := [.agg SHeader.ts, .agg SParams.ts, .int .i64, .int .i64, .int .i64, .int .i64]
noncomputable def c_F3 : CallF R := callHook args_F3 hp_F3 hr_F3
abbrev G_F3 : Prop := Good1 (R := V) Try.prog 73 c_F3
noncomputable def hp_A7 (l : List At) : Bool := match l with
  | .i _ :: .i _ :: .i _ :: .i _ :: .i _ :: .i _ :: .i _ :: .r _ :: .i _ :: .i _ :: .i _ :: .i _ :: .i _ :: .r _ :: .i _ :: .i _ :: .b _ :: .b _ :: .b _ :: .b _ :: .b _ :: .b _ :: .b _ :: .b _ :: .r _ :: .i _ :: .i _ :: .i _ :: .i _ :: .i _ :: .i _ :: .i _ :: [] => true
  | _ => false
noncomputable def hr_A7 (l : List At) : V := match l with
  | .i a :: .i b :: .i c :: .i d :: .i e :: .i f :: .i g :: .r i :: .i j :: .i m :: .i o :: .i p :: .i q :: .r r :: .i s :: .i t :: .b u :: .b v :: .b w :: .b y :: .b z :: .b A :: .b B :: .b D :: .r E :: .i F :: .i H :: .i I :: .i J :: .i K :: .i L :: .i M :: [] => (V.data SBlockID.sh (m_A7 a (SHeader.mk (SRect.mk b c d e) f g i) (SParams.mk j m o p q r s t (SMode.mk u v w y z) A B D E F H) I (SPacketID.mk J K L M)))
  | _ => .undef
abbrev args_A7 : List T := [.int .i64, .pdc SHeader.sh 0 [.int .i64, .int .i64, .int .i64, .int .i64, .int .i64, .int .i64, .data SComponent.sh], .pdc SParams.sh 0 [.int .i64, .int .i64, .int .i64, .int .i64, .int .i64, .data SSpan.sh, .int .i64, .int .i64, .bool, .bool, .bool, .bool, .bool, .bool, .bool, .bool, .data [.int .i64], .int .i64, .int .i64], .pdc [.int .i64] 0 [.int .i64], .pdc SRect.sh 0 [.int .i64, .int .i64, .int .i64, .int .i64]]
noncomputable def c_A7 : CallF R := callHook args_A7 hp_A7 hr_A7
abbrev G_A7 : Prop := Good1 (R := V) Try.prog 72 c_A7
noncomputable def hp_B8 (l : List At) : Bool := match l with
  | .i _ :: .i _ :: .i _ :: .i _ :: .i _ :: .i _ :: .r _ :: .i _ :: .i _ :: .i _ :: .i _ :: .i _ :: .r _ :: .i _ :: .i _ :: .b _ :: .b _ :: .b _ :: .b _ :: .b _ :: .b _ :: .b _ :: .b _ :: .r _ :: .i _ :: .i _ :: .i _ :: .i _ :: .i _ :: .i _ :: .i _ :: [] => true
  | _ => false
noncomputable def hr_B8 (l : List At) : V := match l with
  | .i a :: .i b :: .i c :: .i d :: .i e :: .i f :: .r g :: .i i :: .i j :: .i m :: .i o :: .i p :: .r q :: .i r :: .i s :: .b t :: .b u :: .b v :: .b w :: .b y :: .b z :: .b A :: .b B :: .r D :: .i E :: .i F :: .i H :: .i I :: .i J :: .i K :: .i L :: [] => (V.data SBlockID.sh (m_B8 (SHeader.mk (SRect.mk a b c d) e f g) (SParams.mk i j m o p q r s (SMode.mk t u v w y) z A B D E F) H (SPacketID.mk I J K L)))
  | _ => .undef
abbrev args_B8 : List T := [.agg SHeader.ts, .agg SParams.ts, .int .i64, .agg SRect.ts]
noncomputable def c_B8 : CallF R := callHook args_B8 hp_B8 hr_B8
abbrev G_B8 : Prop := Good1 (R := V) Try.prog 40 c_B8
noncomputable def hp_G6 (l : List At) : Bool := match l with
  | .i _ :: .i _ :: .i _ :: .i _ :: .i _ :: .i _ :: .r _ :: .i _ :: .i _ :: .i _ :: .i _ :: .i _ :: .r _ :: .i _ :: .i _ :: .b _ :: .b _ :: .b _ :: .b _ :: .b _ :: .b _ :: .b _ :: .b _ :: .r _ :: .i _ :: .i _ :: .i _ :: [] => true
  | _ => false
noncomputable def hr_G6 (l : List At) : V := match l with
  | .i a :: .i b :: .i c :: .i d :: .i e :: .i f :: .r g :: .i i :: .i j :: .i m :: .i o :: .i p :: .r q :: .i r :: .i s :: .b t :: .b u :: .b v :: .b w :: .b y :: .b z :: .b A :: .b B :: .r D :: .i E :: .i F :: .i H :: [] => (V.data SBlockID.sh (m_G6 (SHeader.mk (SRect.mk a b c d) e f g) (SParams.mk i j m o p q r s (SMode.mk t u v w y) z A B D E F) H))
  | _ => .undef
abbrev args_G6 : List T := [.agg SHeader.ts, .agg SParams.ts, .int .i64]
noncomputable def c_G6 : CallF R := callHook args_G6 hp_G6 hr_G6
abbrev G_G6 : Prop := Good1 (R := V) Try.prog 17 c_G6
noncomputable def hp_A0 (l : List At) : Bool := match l with
  | .r a :: [] => pre_A0 a
  | _ => false
noncomputable def hr_A0 (l : List At) : V := match l with
  | .r a :: [] => (V.data SComponent.sh (m_A0 a))
  | _ => .undef
abbrev args_A0 : List T := [.data SComponent.sh]
noncomputable def c_A0 : CallF R := callHook args_A0 hp_A0 hr_A0
abbrev G_A0 : Prop := Good1 (R := V) Try.prog 82 c_A0
noncomputable def hp_A1 (l : List At) : Bool := match l with
  | .r a :: [] => pre_A1 a
  | _ => false
noncomputable def hr_A1 (l : List At) : V := match l with
  | .r a :: [] => (V.data SSpan.sh (m_A1 a))
  | _ => .undef
abbrev args_A1 : List T := [.data SSpan.sh]
noncomputable def c_A1 : CallF R := callHook args_A1 hp_A1 hr_A1
abbrev G_A1 : Prop := Good1 (R := V) Try.prog 83 c_A1
noncomputable def hp_A2 (l : List At) : Bool := match l with
  | .r a :: [] => pre_A2 a
  | _ => false
noncomputable def hr_A2 (l : List At) : V := match l with
  | .r a :: [] => (V.data [.int .i64] (m_A2 a))
  | _ => .undef
abbrev args_A2 : List T := [.data [.int .i64]]
noncomputable def c_A2 : CallF R := callHook args_A2 hp_A2 hr_A2
abbrev G_A2 : Prop := Good1 (R := V) Try.prog 84 c_A2
noncomputable def hp_E8 (l : List At) : Bool := match l with
  | .i a :: .i b :: .i c :: .i d :: .i e :: .i f :: .r g :: .i i :: .i j :: .i m :: .i o :: .i p :: .r q :: .i r :: .i s :: .b t :: .b u :: .b v :: .b w :: .b y :: .b z :: .b A :: .b B :: .r D :: .i E :: .i F :: [] => pre_E8 (SHeader.mk (SRect.mk a b c d) e f g) (SParams.mk i j m o p q r s (SMode.mk t u v w y) z A B D E F)
  | _ => false
noncomputable def hr_E8 (l : List At) : V := match l with
  | .i a :: .i b :: .i c :: .i d :: .i e :: .i f :: .r g :: .i i :: .i j :: .i m :: .i o :: .i p :: .r q :: .i r :: .i s :: .b t :: .b u :: .b v :: .b w :: .b y :: .b z :: .b A :: .b B :: .r D :: .i E :: .i F :: [] => (V.tup [(SHeader.v (m_E8 (SHeader.mk (SRect.mk a b c d) e f g) (SParams.mk i j m o p q r s (SMode.mk t u v w y) z A B D E F)).1), (SParams.v (m_E8 (SHeader.mk (SRect.mk a b c d) e f g) (SParams.mk i j m o p q r s (SMode.mk t u v w y) z A B D E F)).2)])
  | _ => .undef
abbrev args_E8 : List T := [.agg SHeader.ts, .agg SParams.ts]
noncomputable def c_E8 : CallF R := callHook args_E8 hp_E8 hr_E8
abbrev G_E8 : Prop := Good1 (R := V) Try.prog 53 c_E8
noncomputable def hp_B7 (l : List At) : Bool := match l with
  | .i a :: .i b :: .i c :: .i d :: .i e :: .i f :: .r g :: .i i :: .i j :: .i m :: .i o :: .i p :: .r q :: .i r :: .i s :: .b t :: .b u :: .b v :: .b w :: .b y :: .b z :: .b A :: .b B :: .r D :: .i E :: .i F :: .i H :: .i I :: .i J :: .i K :: .i L :: .i M :: [] => pre_B7 (SHeader.mk (SRect.mk a b c d) e f g) (SParams.mk i j m o p q r s (SMode.mk t u v w y) z A B D E F) (SView.mk H I (SRect.mk J K L M))
  | _ => false
noncomputable def hr_B7 (l : List At) : V := match l with
  | .i a :: .i b :: .i c :: .i d :: .i e :: .i f :: .r g :: .i i :: .i j :: .i m :: .i o :: .i p :: .r q :: .i r :: .i s :: .b t :: .b u :: .b v :: .b w :: .b y :: .b z :: .b A :: .b B :: .r D :: .i E :: .i F :: .i H :: .i I :: .i J :: .i K :: .i L :: .i M :: [] => (V.tup [(SHeader.v (m_B7 (SHeader.mk (SRect.mk a b c d) e f g) (SParams.mk i j m o p q r s (SMode.mk t u v w y) z A B D E F) (SView.mk H I (SRect.mk J K L M))).1), (V.int .i64 (m_B7 (SHeader.mk (SRect.mk a b c d) e f g) (SParams.mk i j m o p q r s (SMode.mk t u v w y) z A B D E F) (SView.mk H I (SRect.mk J K L M))).2)])
  | _ => .undef
abbrev args_B7 : List T := [.agg SHeader.ts, .agg SParams.ts, .agg SView.ts]
noncomputable def c_B7 : CallF R := callHook args_B7 hp_B7 hr_B7
abbrev G_B7 : Prop := Good1 (R := V) Try.prog 23 c_B7
noncomputable def hp_F2 (l : List At) : Bool := match l with
  | .i _ :: [] => true
  | _ => false
noncomputable def hr_F2 (l : List At) : V := match l with
  | .i a :: [] => (V.int .i64 (m_F2 a))
  | _ => .undef
abbrev args_F2 : List T := [.int .i64]
noncomputable def c_F2 : CallF R := callHook args_F2 hp_F2 hr_F2
abbrev G_F2 : Prop := Good1 (R := V) Try.prog 85 c_F2
noncomputable def hp_F0 (l : List At) : Bool := match l with
  | .i _ :: .i _ :: .i _ :: .i _ :: .i _ :: .i _ :: .i _ :: .i _ :: .i _ :: .i _ :: .i _ :: [] => true
  | _ => false
noncomputable def hr_F0 (l : List At) : V := match l with
  | .i a :: .i b :: .i c :: .i d :: .i e :: .i f :: .i g :: .i i :: .i j :: .i m :: .i o :: [] => (V.data SRect.sh (m_F0 (SRect.mk a b c d) e f (SRect.mk g i j m) o))
  | _ => .undef
abbrev args_F0 : List T := [.agg SRect.ts, .int .i64, .int .i64, .agg SRect.ts, .int .i64]
noncomputable def c_F0 : CallF R := callHook args_F0 hp_F0 hr_F0
abbrev G_F0 : Prop := Good1 (R := V) Try.prog 56 c_F0
noncomputable def hp_D4 (l : List At) : Bool := match l with
  | .i a :: .i b :: .i c :: .i d :: .i e :: .i f :: .r g :: .i i :: .i j :: .i m :: .i o :: .i p :: .r q :: .i r :: .i s :: .b t :: .b u :: .b v :: .b w :: .b y :: .b z :: .b A :: .b B :: .r D :: .i E :: .i F :: .i H :: .i I :: .i J :: .i K :: .i L :: .i M :: .i N :: [] => pre_D4 (SHeader.mk (SRect.mk a b c d) e f g) (SParams.mk i j m o p q r s (SMode.mk t u v w y) z A B D E F) H (SView.mk I J (SRect.mk K L M N))
  | _ => false
noncomputable def hr_D4 (l : List At) : V := match l with
  | .i a :: .i b :: .i c :: .i d :: .i e :: .i f :: .r g :: .i i :: .i j :: .i m :: .i o :: .i p :: .r q :: .i r :: .i s :: .b t :: .b u :: .b v :: .b w :: .b y :: .b z :: .b A :: .b B :: .r D :: .i E :: .i F :: .i H :: .i I :: .i J :: .i K :: .i L :: .i M :: .i N :: [] => (V.mdat (m_D4 (SHeader.mk (SRect.mk a b c d) e f g) (SParams.mk i j m o p q r s (SMode.mk t u v w y) z A B D E F) H (SView.mk I J (SRect.mk K L M N))))
  | _ => .undef
abbrev args_D4 : List T := [.agg SHeader.ts, .agg SParams.ts, .int .i64, .agg SView.ts]
noncomputable def c_D4 : CallF R := callHook args_D4 hp_D4 hr_D4
abbrev G_D4 : Prop := Good1 (R := V) Try.prog 25 c_D4
noncomputable def hp_D2 (l : List At) : Bool := match l with
  | .i _ :: .i _ :: .i _ :: .i _ :: .i _ :: .i _ :: .r _ :: .i _ :: .i _ :: .i _ :: .i _ :: .i _ :: .r _ :: .i _ :: .i _ :: .b _ :: .b _ :: .b _ :: .b _ :: .b _ :: .b _ :: .b _ :: .b _ :: .r _ :: .i _ :: .i _ :: .i _ :: .i _ :: .i _ :: .i _ :: .i _ :: .i _ :: .i _ :: [] => true
  | _ => false
noncomputable def hr_D2 (l : List At) : V := match l with
  | .i a :: .i b :: .i c :: .i d :: .i e :: .i f :: .r g :: .i i :: .i j :: .i m :: .i o :: .i p :: .r q :: .i r :: .i s :: .b t :: .b u :: .b v :: .b w :: .b y :: .b z :: .b A :: .b B :: .r D :: .i E :: .i F :: .i H :: .i I :: .i J :: .i K :: .i L :: .i M :: .i N :: [] => (V.tup [(V.data [.bool] (m_D2 (SHeader.mk (SRect.mk a b c d) e f g) (SParams.mk i j m o p q r s (SMode.mk t u v w y) z A B D E F) H (SView.mk I J (SRect.mk K L M N))).1), (V.int .i64 (m_D2 (SHeader.mk (SRect.mk a b c d) e f g) (SParams.mk i j m o p q r s (SMode.mk t u v w y) z A B D E F) H (SView.mk I J (SRect.mk K L M N))).2)])
  | _ => .undef
abbrev args_D2 : List T := [.agg SHeader.ts, .agg SParams.ts, .int .i64, .agg SView.ts]
noncomputable def c_D2 : CallF R := callHook args_D2 hp_D2 hr_D2
abbrev G_D2 : Prop := Good1 (R := V) Try.prog 13 c_D2
noncomputable def hp_E9 (l : List At) : Bool := match l with
  | .i _ :: .i _ :: .i _ :: .i _ :: .i _ :: .i _ :: .r _ :: .i _ :: .i _ :: .i _ :: .i _ :: .i _ :: .i _ :: [] => true
  | _ => false
noncomputable def hr_E9 (l : List At) : V := match l with
  | .i a :: .i b :: .i c :: .i d :: .i e :: .i f :: .r g :: .i i :: .i j :: .i m :: .i o :: .i p :: .i q :: [] => (V.data [.int .i64] (m_E9 (SHeader.mk (SRect.mk a b c d) e f g) (SView.mk i j (SRect.mk m o p q))))
  | _ => .undef
abbrev args_E9 : List T := [.agg SHeader.ts, .agg SView.ts]
noncomputable def c_E9 : CallF R := callHook args_E9 hp_E9 hr_E9
abbrev G_E9 : Prop := Good1 (R := V) Try.prog 15 c_E9
noncomputable def hp_I7 (l : List At) : Bool := match l with
  | .r a :: [] => pre_I7 a
  | _ => false
noncomputable def hr_I7 (l : List At) : V := match l with
  | .r a :: [] => (V.int .i64 (m_I7 a))
  | _ => .undef
abbrev args_I7 : List T := [.data [.bool]]
noncomputable def c_I7 : CallF R := callHook args_I7 hp_I7 hr_I7
abbrev G_I7 : Prop := Good1 (R := V) Try.prog 18 c_I7
noncomputable def hp_J0 (l : List At) : Bool := match l with
  | [] => true
  | _ => false
noncomputable def hr_J0 (l : List At) : V := match l with
  | [] => (V.bool m_J0)
  | _ => .undef
abbrev args_J0 : List T := []
noncomputable def c_J0 : CallF R := callHook args_J0 hp_J0 hr_J0
abbrev G_J0 : Prop := Good1 (R := V) Try.prog 12 c_J0
noncomputable def hp_B2 (l : List At) : Bool := match l with
  | .i _ :: .i _ :: .i _ :: .i _ :: .i _ :: .i _ :: .r _ :: .i _ :: .i _ :: .i _ :: .i _ :: .i _ :: .r _ :: .i _ :: .i _ :: .b _ :: .b _ :: .b _ :: .b _ :: .b _ :: .b _ :: .b _ :: .b _ :: .r _ :: .i _ :: .i _ :: .i _ :: .i _ :: .i _ :: .i _ :: .i _ :: .i _ :: .i _ :: [] => true
  | _ => false
noncomputable def hr_B2 (l : List At) : V := match l with
  | .i a :: .i b :: .i c :: .i d :: .i e :: .i f :: .r g :: .i i :: .i j :: .i m :: .i o :: .i p :: .r q :: .i r :: .i s :: .b t :: .b u :: .b v :: .b w :: .b y :: .b z :: .b A :: .b B :: .r D :: .i E :: .i F :: .i H :: .i I :: .i J :: .i K :: .i L :: .i M :: .i N :: [] => (V.bool (m_B2 (SL39_Place.mk (SHeader.mk (SRect.mk a b c d) e f g) (SParams.mk i j m o p q r s (SMode.mk t u v w y) z A B D E F) H) (SView.mk I J (SRect.mk K L M N))))
  | _ => .undef
abbrev args_B2 : List T := [.agg SL39_Place.ts, .agg SView.ts]
noncomputable def c_B2 : CallF R := callHook args_B2 hp_B2 hr_B2
abbrev G_B2 : Prop := Good1 (R := V) Try.prog 6 c_B2
end Go.Vm
