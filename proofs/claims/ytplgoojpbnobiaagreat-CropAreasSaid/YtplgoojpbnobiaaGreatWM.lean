import Derived.Test.YtplgoojpbnobiaaGreatVmFor
import Derived.Test.YtplgoojpbnobiaaGreatProg
set_option linter.unusedVariables false
set_option linter.unusedSimpArgs false
set_option maxRecDepth 100000
noncomputable section
namespace Go.Vm
open Go.Proofs
abbrev Rows := List (List V)
def unds : Nat → List T → List T
  | 0, l => l
  | n + 1, l => .undef :: unds n l
structure SRect where
  X0 : Int
  Y0 : Int
  X1 : Int
  Y1 : Int
abbrev SRect.sh : List CK := [.int .i64, .int .i64, .int .i64, .int .i64]
abbrev SRect.ts : List T := [.int .i64, .int .i64, .int .i64, .int .i64]
def SRect.row (s : SRect) : List V := [.int .i64 s.X0, .int .i64 s.Y0, .int .i64 s.X1, .int .i64 s.Y1]
def SRect.v (s : SRect) : V := .agg s.row
def SRect.of (w : List V) : SRect := ⟨V.toInt (List.getD w 0 V.undef), V.toInt (List.getD w 1 V.undef), V.toInt (List.getD w 2 V.undef), V.toInt (List.getD w 3 V.undef)⟩
instance : Inhabited SRect := ⟨SRect.of []⟩
structure SComponent where
  Depth : Int
  Signed : Bool
  DX : Int
  DY : Int
abbrev SComponent.sh : List CK := [.int .i64, .bool, .int .i64, .int .i64]
abbrev SComponent.ts : List T := [.int .i64, .bool, .int .i64, .int .i64]
def SComponent.row (s : SComponent) : List V := [.int .i64 s.Depth, .bool s.Signed, .int .i64 s.DX, .int .i64 s.DY]
def SComponent.v (s : SComponent) : V := .agg s.row
def SComponent.of (w : List V) : SComponent := ⟨V.toInt (List.getD w 0 V.undef), V.toBool (List.getD w 1 V.undef), V.toInt (List.getD w 2 V.undef), V.toInt (List.getD w 3 V.undef)⟩
instance : Inhabited SComponent := ⟨SComponent.of []⟩
structure SHeader where
  Area : SRect
  TileW : Int
  TileH : Int
  Components : Rows
abbrev SHeader.sh : List CK := [.int .i64, .int .i64, .int .i64, .int .i64, .int .i64, .int .i64, .sl SComponent.sh]
abbrev SHeader.ts : List T := [.int .i64, .int .i64, .int .i64, .int .i64, .int .i64, .int .i64, .data SComponent.sh]
def SHeader.row (s : SHeader) : List V := [.int .i64 s.Area.X0, .int .i64 s.Area.Y0, .int .i64 s.Area.X1, .int .i64 s.Area.Y1, .int .i64 s.TileW, .int .i64 s.TileH, .data SComponent.sh s.Components]
def SHeader.v (s : SHeader) : V := .agg s.row
def SHeader.of (w : List V) : SHeader := ⟨⟨V.toInt (List.getD w 0 V.undef), V.toInt (List.getD w 1 V.undef), V.toInt (List.getD w 2 V.undef), V.toInt (List.getD w 3 V.undef)⟩, V.toInt (List.getD w 4 V.undef), V.toInt (List.getD w 5 V.undef), V.toRows (List.getD w 6 V.undef)⟩
instance : Inhabited SHeader := ⟨SHeader.of []⟩
structure SMode where
  Bypass : Bool
  Restart : Bool
  Reset : Bool
  Causal : Bool
  Symbols : Bool
abbrev SMode.sh : List CK := [.bool, .bool, .bool, .bool, .bool]
abbrev SMode.ts : List T := [.bool, .bool, .bool, .bool, .bool]
def SMode.row (s : SMode) : List V := [.bool s.Bypass, .bool s.Restart, .bool s.Reset, .bool s.Causal, .bool s.Symbols]
def SMode.v (s : SMode) : V := .agg s.row
def SMode.of (w : List V) : SMode := ⟨V.toBool (List.getD w 0 V.undef), V.toBool (List.getD w 1 V.undef), V.toBool (List.getD w 2 V.undef), V.toBool (List.getD w 3 V.undef), V.toBool (List.getD w 4 V.undef)⟩
instance : Inhabited SMode := ⟨SMode.of []⟩
structure SPoint where
  X : Int
  Y : Int
abbrev SPoint.sh : List CK := [.int .i64, .int .i64]
abbrev SPoint.ts : List T := [.int .i64, .int .i64]
def SPoint.row (s : SPoint) : List V := [.int .i64 s.X, .int .i64 s.Y]
def SPoint.v (s : SPoint) : V := .agg s.row
def SPoint.of (w : List V) : SPoint := ⟨V.toInt (List.getD w 0 V.undef), V.toInt (List.getD w 1 V.undef)⟩
instance : Inhabited SPoint := ⟨SPoint.of []⟩
structure Sheadseg_failure where
  e : Int
abbrev Sheadseg_failure.sh : List CK := [.int .i64]
abbrev Sheadseg_failure.ts : List T := [.int .i64]
def Sheadseg_failure.row (s : Sheadseg_failure) : List V := [.int .i64 s.e]
def Sheadseg_failure.v (s : Sheadseg_failure) : V := .agg s.row
def Sheadseg_failure.of (w : List V) : Sheadseg_failure := ⟨V.toInt (List.getD w 0 V.undef)⟩
instance : Inhabited Sheadseg_failure := ⟨Sheadseg_failure.of []⟩
structure SParams where
  Kernel : Int
  Levels : Int
  Color : Int
  BlockX : Int
  BlockY : Int
  Precincts : Rows
  Order : Int
  Layers : Int
  Mode : SMode
  Divide : Bool
  Sync : Bool
  Fence : Bool
  Steps : Rows
  Dead : Int
  Shift : Int
abbrev SParams.sh : List CK := [.int .i64, .int .i64, .int .i64, .int .i64, .int .i64, .sl SPoint.sh, .int .i64, .int .i64, .bool, .bool, .bool, .bool, .bool, .bool, .bool, .bool, .sl Sheadseg_failure.sh, .int .i64, .int .i64]
abbrev SParams.ts : List T := [.int .i64, .int .i64, .int .i64, .int .i64, .int .i64, .data SPoint.sh, .int .i64, .int .i64, .bool, .bool, .bool, .bool, .bool, .bool, .bool, .bool, .data Sheadseg_failure.sh, .int .i64, .int .i64]
def SParams.row (s : SParams) : List V := [.int .i64 s.Kernel, .int .i64 s.Levels, .int .i64 s.Color, .int .i64 s.BlockX, .int .i64 s.BlockY, .data SPoint.sh s.Precincts, .int .i64 s.Order, .int .i64 s.Layers, .bool s.Mode.Bypass, .bool s.Mode.Restart, .bool s.Mode.Reset, .bool s.Mode.Causal, .bool s.Mode.Symbols, .bool s.Divide, .bool s.Sync, .bool s.Fence, .data Sheadseg_failure.sh s.Steps, .int .i64 s.Dead, .int .i64 s.Shift]
def SParams.v (s : SParams) : V := .agg s.row
def SParams.of (w : List V) : SParams := ⟨V.toInt (List.getD w 0 V.undef), V.toInt (List.getD w 1 V.undef), V.toInt (List.getD w 2 V.undef), V.toInt (List.getD w 3 V.undef), V.toInt (List.getD w 4 V.undef), V.toRows (List.getD w 5 V.undef), V.toInt (List.getD w 6 V.undef), V.toInt (List.getD w 7 V.undef), ⟨V.toBool (List.getD w 8 V.undef), V.toBool (List.getD w 9 V.undef), V.toBool (List.getD w 10 V.undef), V.toBool (List.getD w 11 V.undef), V.toBool (List.getD w 12 V.undef)⟩, V.toBool (List.getD w 13 V.undef), V.toBool (List.getD w 14 V.undef), V.toBool (List.getD w 15 V.undef), V.toRows (List.getD w 16 V.undef), V.toInt (List.getD w 17 V.undef), V.toInt (List.getD w 18 V.undef)⟩
instance : Inhabited SParams := ⟨SParams.of []⟩
structure SPacketID where
  Comp : Int
  Res : Int
  Precinct : Int
  Layer : Int
abbrev SPacketID.sh : List CK := [.int .i64, .int .i64, .int .i64, .int .i64]
abbrev SPacketID.ts : List T := [.int .i64, .int .i64, .int .i64, .int .i64]
def SPacketID.row (s : SPacketID) : List V := [.int .i64 s.Comp, .int .i64 s.Res, .int .i64 s.Precinct, .int .i64 s.Layer]
def SPacketID.v (s : SPacketID) : V := .agg s.row
def SPacketID.of (w : List V) : SPacketID := ⟨V.toInt (List.getD w 0 V.undef), V.toInt (List.getD w 1 V.undef), V.toInt (List.getD w 2 V.undef), V.toInt (List.getD w 3 V.undef)⟩
instance : Inhabited SPacketID := ⟨SPacketID.of []⟩
structure SPacket where
  ID : SPacketID
  Head : Rows
  Body : Rows
abbrev SPacket.sh : List CK := [.int .i64, .int .i64, .int .i64, .int .i64, .sl [.int .u8], .sl [.int .u8]]
abbrev SPacket.ts : List T := [.int .i64, .int .i64, .int .i64, .int .i64, .data [.int .u8], .data [.int .u8]]
def SPacket.row (s : SPacket) : List V := [.int .i64 s.ID.Comp, .int .i64 s.ID.Res, .int .i64 s.ID.Precinct, .int .i64 s.ID.Layer, .data [.int .u8] s.Head, .data [.int .u8] s.Body]
def SPacket.v (s : SPacket) : V := .agg s.row
def SPacket.of (w : List V) : SPacket := ⟨⟨V.toInt (List.getD w 0 V.undef), V.toInt (List.getD w 1 V.undef), V.toInt (List.getD w 2 V.undef), V.toInt (List.getD w 3 V.undef)⟩, V.toRows (List.getD w 4 V.undef), V.toRows (List.getD w 5 V.undef)⟩
instance : Inhabited SPacket := ⟨SPacket.of []⟩
structure SStream where
  Header : SHeader
  Params : SParams
  Comments : Rows
  Tiles : Rows
abbrev SStream.sh : List CK := [.int .i64, .int .i64, .int .i64, .int .i64, .int .i64, .int .i64, .sl SComponent.sh, .int .i64, .int .i64, .int .i64, .int .i64, .int .i64, .sl SPoint.sh, .int .i64, .int .i64, .bool, .bool, .bool, .bool, .bool, .bool, .bool, .bool, .sl Sheadseg_failure.sh, .int .i64, .int .i64, .sl [.str], .sl [.sl SPacket.sh]]
abbrev SStream.ts : List T := [.int .i64, .int .i64, .int .i64, .int .i64, .int .i64, .int .i64, .data SComponent.sh, .int .i64, .int .i64, .int .i64, .int .i64, .int .i64, .data SPoint.sh, .int .i64, .int .i64, .bool, .bool, .bool, .bool, .bool, .bool, .bool, .bool, .data Sheadseg_failure.sh, .int .i64, .int .i64, .data [.str], .data [.sl SPacket.sh]]
def SStream.row (s : SStream) : List V := [.int .i64 s.Header.Area.X0, .int .i64 s.Header.Area.Y0, .int .i64 s.Header.Area.X1, .int .i64 s.Header.Area.Y1, .int .i64 s.Header.TileW, .int .i64 s.Header.TileH, .data SComponent.sh s.Header.Components, .int .i64 s.Params.Kernel, .int .i64 s.Params.Levels, .int .i64 s.Params.Color, .int .i64 s.Params.BlockX, .int .i64 s.Params.BlockY, .data SPoint.sh s.Params.Precincts, .int .i64 s.Params.Order, .int .i64 s.Params.Layers, .bool s.Params.Mode.Bypass, .bool s.Params.Mode.Restart, .bool s.Params.Mode.Reset, .bool s.Params.Mode.Causal, .bool s.Params.Mode.Symbols, .bool s.Params.Divide, .bool s.Params.Sync, .bool s.Params.Fence, .data Sheadseg_failure.sh s.Params.Steps, .int .i64 s.Params.Dead, .int .i64 s.Params.Shift, .data [.str] s.Comments, .data [.sl SPacket.sh] s.Tiles]
def SStream.v (s : SStream) : V := .agg s.row
def SStream.of (w : List V) : SStream := ⟨⟨⟨V.toInt (List.getD w 0 V.undef), V.toInt (List.getD w 1 V.undef), V.toInt (List.getD w 2 V.undef), V.toInt (List.getD w 3 V.undef)⟩, V.toInt (List.getD w 4 V.undef), V.toInt (List.getD w 5 V.undef), V.toRows (List.getD w 6 V.undef)⟩, ⟨V.toInt (List.getD w 7 V.undef), V.toInt (List.getD w 8 V.undef), V.toInt (List.getD w 9 V.undef), V.toInt (List.getD w 10 V.undef), V.toInt (List.getD w 11 V.undef), V.toRows (List.getD w 12 V.undef), V.toInt (List.getD w 13 V.undef), V.toInt (List.getD w 14 V.undef), ⟨V.toBool (List.getD w 15 V.undef), V.toBool (List.getD w 16 V.undef), V.toBool (List.getD w 17 V.undef), V.toBool (List.getD w 18 V.undef), V.toBool (List.getD w 19 V.undef)⟩, V.toBool (List.getD w 20 V.undef), V.toBool (List.getD w 21 V.undef), V.toBool (List.getD w 22 V.undef), V.toRows (List.getD w 23 V.undef), V.toInt (List.getD w 24 V.undef), V.toInt (List.getD w 25 V.undef)⟩, V.toRows (List.getD w 26 V.undef), V.toRows (List.getD w 27 V.undef)⟩
instance : Inhabited SStream := ⟨SStream.of []⟩
structure Sstream_head where
  header : SHeader
  params : SParams
  comments : Rows
  sizes : Rows
  next : Int
abbrev Sstream_head.sh : List CK := [.int .i64, .int .i64, .int .i64, .int .i64, .int .i64, .int .i64, .sl SComponent.sh, .int .i64, .int .i64, .int .i64, .int .i64, .int .i64, .sl SPoint.sh, .int .i64, .int .i64, .bool, .bool, .bool, .bool, .bool, .bool, .bool, .bool, .sl Sheadseg_failure.sh, .int .i64, .int .i64, .sl [.str], .sl Sheadseg_failure.sh, .int .i64]
abbrev Sstream_head.ts : List T := [.int .i64, .int .i64, .int .i64, .int .i64, .int .i64, .int .i64, .data SComponent.sh, .int .i64, .int .i64, .int .i64, .int .i64, .int .i64, .data SPoint.sh, .int .i64, .int .i64, .bool, .bool, .bool, .bool, .bool, .bool, .bool, .bool, .data Sheadseg_failure.sh, .int .i64, .int .i64, .data [.str], .data Sheadseg_failure.sh, .int .i64]
def Sstream_head.row (s : Sstream_head) : List V := [.int .i64 s.header.Area.X0, .int .i64 s.header.Area.Y0, .int .i64 s.header.Area.X1, .int .i64 s.header.Area.Y1, .int .i64 s.header.TileW, .int .i64 s.header.TileH, .data SComponent.sh s.header.Components, .int .i64 s.params.Kernel, .int .i64 s.params.Levels, .int .i64 s.params.Color, .int .i64 s.params.BlockX, .int .i64 s.params.BlockY, .data SPoint.sh s.params.Precincts, .int .i64 s.params.Order, .int .i64 s.params.Layers, .bool s.params.Mode.Bypass, .bool s.params.Mode.Restart, .bool s.params.Mode.Reset, .bool s.params.Mode.Causal, .bool s.params.Mode.Symbols, .bool s.params.Divide, .bool s.params.Sync, .bool s.params.Fence, .data Sheadseg_failure.sh s.params.Steps, .int .i64 s.params.Dead, .int .i64 s.params.Shift, .data [.str] s.comments, .data Sheadseg_failure.sh s.sizes, .int .i64 s.next]
def Sstream_head.v (s : Sstream_head) : V := .agg s.row
def Sstream_head.of (w : List V) : Sstream_head := ⟨⟨⟨V.toInt (List.getD w 0 V.undef), V.toInt (List.getD w 1 V.undef), V.toInt (List.getD w 2 V.undef), V.toInt (List.getD w 3 V.undef)⟩, V.toInt (List.getD w 4 V.undef), V.toInt (List.getD w 5 V.undef), V.toRows (List.getD w 6 V.undef)⟩, ⟨V.toInt (List.getD w 7 V.undef), V.toInt (List.getD w 8 V.undef), V.toInt (List.getD w 9 V.undef), V.toInt (List.getD w 10 V.undef), V.toInt (List.getD w 11 V.undef), V.toRows (List.getD w 12 V.undef), V.toInt (List.getD w 13 V.undef), V.toInt (List.getD w 14 V.undef), ⟨V.toBool (List.getD w 15 V.undef), V.toBool (List.getD w 16 V.undef), V.toBool (List.getD w 17 V.undef), V.toBool (List.getD w 18 V.undef), V.toBool (List.getD w 19 V.undef)⟩, V.toBool (List.getD w 20 V.undef), V.toBool (List.getD w 21 V.undef), V.toBool (List.getD w 22 V.undef), V.toRows (List.getD w 23 V.undef), V.toInt (List.getD w 24 V.undef), V.toInt (List.getD w 25 V.undef)⟩, V.toRows (List.getD w 26 V.undef), V.toRows (List.getD w 27 V.undef), V.toInt (List.getD w 28 V.undef)⟩
instance : Inhabited Sstream_head := ⟨Sstream_head.of []⟩
structure SSegment where
  Code : Int
  Payload : Rows
abbrev SSegment.sh : List CK := [.int .i64, .sl [.int .u8]]
abbrev SSegment.ts : List T := [.int .i64, .data [.int .u8]]
def SSegment.row (s : SSegment) : List V := [.int .i64 s.Code, .data [.int .u8] s.Payload]
def SSegment.v (s : SSegment) : V := .agg s.row
def SSegment.of (w : List V) : SSegment := ⟨V.toInt (List.getD w 0 V.undef), V.toRows (List.getD w 1 V.undef)⟩
instance : Inhabited SSegment := ⟨SSegment.of []⟩
def u8 : List V → Option Int
  | [.int .u8 n] => some n
  | _ => none
def byB : Rows → List Int → Bool
  | [], [] => true
  | x :: r, m :: l => (u8 x == some m) && byB r l
  | _, _ => false
noncomputable def m_marker_Known (a0 : Int) : Bool :=
 bif (a0 == (65440 : Int)) then
 bif (a0 == (65440 : Int)) then
 true
 else
 false
 else
 bif (a0 == (65441 : Int)) then
 bif (a0 == (65441 : Int)) then
 true
 else
 false
 else
 bif (a0 == (65442 : Int)) then
 bif (a0 == (65442 : Int)) then
 true
 else
 false
 else
 bif (a0 == (65443 : Int)) then
 bif (a0 == (65443 : Int)) then
 true
 else
 false
 else
 bif (a0 == (65444 : Int)) then
 bif (a0 == (65444 : Int)) then
 true
 else
 false
 else
 bif (a0 == (65445 : Int)) then
 bif (a0 == (65445 : Int)) then
 true
 else
 false
 else
 bif (a0 == (65455 : Int)) then
 bif (a0 == (65455 : Int)) then
 true
 else
 false
 else
 bif (a0 == (65456 : Int)) then
 bif (a0 == (65456 : Int)) then
 true
 else
 false
 else
 bif (a0 == (65457 : Int)) then
 bif (a0 == (65457 : Int)) then
 true
 else
 false
 else
 bif (a0 == (65458 : Int)) then
 true
 else
 false
def readL (l : Rows) : Int := l.foldl (fun v w => intBits .or .i64 (IntKind.wrap .i64 (v * 2 ^ 8)) (IntKind.wrap .i64 (V.toInt (List.getD w 0 V.undef)))) 0
def m_marker_ReadUint (b : Rows) (at_ n : Int) : Int × Int :=
  bif decide (n < 1) || decide (n > 4) || decide (at_ < 0) || decide (at_ > (b.length : Int)) then (0, 2)
  else bif decide ((b.length : Int) - at_ < n) then (0, 7)
  else (readL ((b.take (at_ + n).toNat).drop at_.toNat), 0)
def pre_marker_ReadUint (b : Rows) (at_ n : Int) : Bool := Nat.ble b.length 1099511627776
def m_marker_Read (b : Rows) (at_ : Int) : SSegment × Int × Int := (SSegment.of [], 0, bif byB b [1, 2] then 11 else 7)
def pre_marker_Read (b : Rows) (at_ : Int) : Bool := (byB b [1, 2] || byB b []) && (at_ == 0)
def m_stream_readMain (b : Rows) : Sstream_head × Int := (Sstream_head.of [], 10)
def pre_stream_readMain (b : Rows) : Bool := byB b [1, 2] || byB b []
def m_stream_Parse (b : Rows) : SStream × Int := (SStream.of [], 10)
def pre_stream_Parse (b : Rows) : Bool := byB b [1, 2] || byB b []
def m_crop_pair (a b : Rows) : SStream × SStream × Int := (SStream.of [], SStream.of [], 10)
def pre_crop_pair (a b : Rows) : Bool := byB a [1, 2] && byB b []
def m_crop_Replace (a b : Rows) (t : Int) : Rows × Int := ([], 10)
def pre_crop_Replace (a b : Rows) (t : Int) : Bool := byB a [1, 2] && byB b []
def m_crop_Join (a b : Rows) : Rows × Int := ([], 10)
def pre_crop_Join (a b : Rows) : Bool := byB a [1, 2] && byB b []
noncomputable def m_rect_Valid (a0 : SRect) : Bool :=
 let b1 : Bool := (decide ((0 : Int) ≤ a0.X0))
 let b2 : Bool := (bif b1 then (decide (a0.X0 ≤ a0.X1)) else false)
 let b3 : Bool := (decide (a0.X1 ≤ (4096 : Int)))
 let b4 : Bool := (bif b2 then b3 else false)
 let b5 : Bool := (decide ((0 : Int) ≤ a0.Y0))
 let b6 : Bool := (bif b4 then b5 else false)
 let b7 : Bool := (bif b6 then (decide (a0.Y0 ≤ a0.Y1)) else false)
 let b8 : Bool := (decide (a0.Y1 ≤ (4096 : Int)))
 let b9 : Bool := (bif b7 then b8 else false)
 b9
noncomputable def m_rect_CeilDiv (a0 a1 : Int) : Int :=
 let b1 : Bool := (decide (a1 < (1 : Int)))
 bif b1 then
 (0 : Int)
 else
 bif (a1 != 0) then
 let x2 : Int := (IntKind.wrap .i64 (Int.tdiv a0 a1))
 bif (a1 != 0) then
 let b3 : Bool := (decide ((Int.tmod a0 a1) > (0 : Int)))
 bif b3 then
 let x4 : Int := (IntKind.wrap .i64 (x2 + (1 : Int)))
 x4
 else
 x2
 else default
 else default
noncomputable def pre_rect_CeilDiv (a0 a1 : Int) : Bool :=
 let b1 : Bool := (decide (a1 < (1 : Int)))
 bif b1 then
 true
 else
 bif (a1 != 0) then
 bif (a1 != 0) then
 let b3 : Bool := (decide ((Int.tmod a0 a1) > (0 : Int)))
 bif b3 then
 true
 else
 true
 else false
 else false
noncomputable def m_rect_Reduce (a0 : SRect) (a1 a2 : Int) : SRect :=
 let c1 : Bool := (m_rect_Valid a0)
 let b2 : Bool := (decide (a1 < (1 : Int)))
 let b3 : Bool := (bif (!c1) then true else b2)
 let b4 : Bool := (decide (a1 > (4096 : Int)))
 let b5 : Bool := (bif b3 then true else b4)
 let b6 : Bool := (decide (a2 < (1 : Int)))
 let b7 : Bool := (bif b5 then true else b6)
 let b8 : Bool := (decide (a2 > (4096 : Int)))
 let b9 : Bool := (bif b7 then true else b8)
 bif b9 then
 (SRect.mk (0 : Int) (0 : Int) (0 : Int) (0 : Int))
 else
 let c10 : Int := (m_rect_CeilDiv a0.X0 a1)
 let c11 : Int := (m_rect_CeilDiv a0.Y0 a2)
 let c12 : Int := (m_rect_CeilDiv a0.X1 a1)
 let c13 : Int := (m_rect_CeilDiv a0.Y1 a2)
 (SRect.mk c10 c11 c12 c13)
noncomputable def m_rect_Empty (a0 : SRect) : Bool :=
 let b1 : Bool := (bif (decide (a0.X0 ≥ a0.X1)) then true else (decide (a0.Y0 ≥ a0.Y1)))
 b1
def inB (lo hi x : Int) : Bool := !(bif decide (x < lo) then true else decide (x > hi))
def m_params_within (a0 a1 : Int) (a2 : Rows) : Bool := a2.all fun w => inB a0 a1 (V.toInt (List.getD w 0 V.undef))
def pre_params_within (a0 a1 : Int) (a2 : Rows) : Bool := Nat.ble a2.length 1048576
noncomputable def m_rect_FloorDiv (a0 a1 : Int) : Int :=
 let b1 : Bool := (decide (a1 < (1 : Int)))
 bif b1 then
 (0 : Int)
 else
 bif (a1 != 0) then
 let x2 : Int := (IntKind.wrap .i64 (Int.tdiv a0 a1))
 bif (a1 != 0) then
 let b3 : Bool := (decide ((Int.tmod a0 a1) < (0 : Int)))
 bif b3 then
 let x4 : Int := (IntKind.wrap .i64 (x2 - (1 : Int)))
 x4
 else
 x2
 else default
 else default
noncomputable def pre_rect_FloorDiv (a0 a1 : Int) : Bool :=
 let b1 : Bool := (decide (a1 < (1 : Int)))
 bif b1 then
 true
 else
 bif (a1 != 0) then
 bif (a1 != 0) then
 let b3 : Bool := (decide ((Int.tmod a0 a1) < (0 : Int)))
 bif b3 then
 true
 else
 true
 else false
 else false
noncomputable def m_rect_Area (a0 : SRect) : Int :=
 let c1 : Bool := (m_rect_Valid a0)
 bif (!c1) then
 (0 : Int)
 else
 let x2 : Int := (IntKind.wrap .i64 (a0.X1 - a0.X0))
 let x3 : Int := (IntKind.wrap .i64 (a0.Y1 - a0.Y0))
 let x4 : Int := (IntKind.wrap .i64 (x2 * x3))
 x4
def compOK (a : SRect) (w : List V) : Bool := inB 1 16 (SComponent.of w).Depth && inB 1 4 (SComponent.of w).DX && inB 1 4 (SComponent.of w).DY && !m_rect_Empty (m_rect_Reduce a (SComponent.of w).DX (SComponent.of w).DY)
def compFits (a : SRect) (w : List V) : Bool := !decide (m_rect_Area (m_rect_Reduce a (SComponent.of w).DX (SComponent.of w).DY) > 1048576)
def nTiles (h : SHeader) : Int := IntKind.wrap .i64 (IntKind.wrap .i64 (m_rect_CeilDiv h.Area.X1 h.TileW - m_rect_FloorDiv h.Area.X0 h.TileW) * IntKind.wrap .i64 (m_rect_CeilDiv h.Area.Y1 h.TileH - m_rect_FloorDiv h.Area.Y0 h.TileH))
def headOK (h : SHeader) : Bool := m_rect_Valid h.Area && !m_rect_Empty h.Area && inB 1 4096 h.TileW && inB 1 4096 h.TileH && inB 1 4 (h.Components.length : Int)
def m_params_Header (h : SHeader) : Int :=
  bif headOK h && h.Components.all (compOK h.Area) then
    (bif decide (nTiles h > 1024) then 5 else bif h.Components.all (compFits h.Area) then 0 else 5)
  else 12
noncomputable def m_rect_Intersect (a0 a1 : SRect) : SRect :=
 let x1 : Int := (bif (decide (a1.X0 > a0.X0)) then a1.X0 else a0.X0)
 let x2 : Int := (bif (decide (a1.Y0 > a0.Y0)) then a1.Y0 else a0.Y0)
 let x3 : Int := (bif (decide (a1.X1 < a0.X1)) then a1.X1 else a0.X1)
 let x4 : Int := (bif (decide (a1.Y1 < a0.Y1)) then a1.Y1 else a0.Y1)
 let c5 : Bool := (m_rect_Empty (SRect.mk x1 x2 x3 x4))
 bif c5 then
 (SRect.mk (0 : Int) (0 : Int) (0 : Int) (0 : Int))
 else
 (SRect.mk x1 x2 x3 x4)
def cellOf (r : SRect) (w h j i : Int) : SRect := m_rect_Intersect r ⟨IntKind.wrap .i64 (i * w), IntKind.wrap .i64 (j * h), IntKind.wrap .i64 (IntKind.wrap .i64 (i + 1) * w), IntKind.wrap .i64 (IntKind.wrap .i64 (j + 1) * h)⟩
def cellsOK (r : SRect) (w h : Int) : Bool := m_rect_Valid r && !m_rect_Empty r && !decide (w < 1) && !decide (h < 1) && !decide (IntKind.wrap .i64 (IntKind.wrap .i64 (m_rect_CeilDiv r.X1 w - m_rect_FloorDiv r.X0 w) * IntKind.wrap .i64 (m_rect_CeilDiv r.Y1 h - m_rect_FloorDiv r.Y0 h)) > 65536)
def cellsL (r : SRect) (w h : Int) : List SRect := bif cellsOK r w h then
    (rngI (m_rect_FloorDiv r.Y0 h) (m_rect_CeilDiv r.Y1 h)).flatMap fun j => (rngI (m_rect_FloorDiv r.X0 w) (m_rect_CeilDiv r.X1 w)).map fun i => cellOf r w h j i
  else []
def m_rect_Cells (r : SRect) (w h : Int) : Rows := (cellsL r w h).map SRect.row
noncomputable def m_layout_Tiles (a0 : SHeader) : Rows :=
 let c1 : Int := (m_params_Header a0)
 bif (c1 != (0 : Int)) then
 []
 else
 let c2 : Rows := (m_rect_Cells a0.Area a0.TileW a0.TileH)
 c2
def m_crop_touched (h : SHeader) (w : SRect) : Rows := ((rngI 0 ((m_layout_Tiles h).length : Int)).filter fun i => !m_rect_Empty (m_rect_Intersect (SRect.of (List.getD (m_layout_Tiles h) i.toNat [])) w)).map fun i => SRect.row (SRect.of (List.getD (m_layout_Tiles h) i.toNat []))
def boundStep (s : Bool × SRect) (r : SRect) : Bool × SRect := bif m_rect_Empty r then s else bif !s.1 then (true, r) else (true, ⟨bif decide (r.X0 < s.2.X0) then r.X0 else s.2.X0, bif decide (r.Y0 < s.2.Y0) then r.Y0 else s.2.Y0, bif decide (r.X1 > s.2.X1) then r.X1 else s.2.X1, bif decide (r.Y1 > s.2.Y1) then r.Y1 else s.2.Y1⟩)
def m_rect_Bound (l : Rows) : SRect := (l.foldl (fun s w => boundStep s (SRect.of w)) (false, ⟨0, 0, 0, 0⟩)).2
def pre_rect_Bound (l : Rows) : Bool := Nat.ble l.length 1099511627776
noncomputable def m_crop_Area (a0 : SHeader) (a1 : SRect) : SRect × Int :=
 let c1 : Int := (m_params_Header a0)
 bif (c1 != (0 : Int)) then
 ((SRect.mk (0 : Int) (0 : Int) (0 : Int) (0 : Int)), c1)
 else
 let c2 : Rows := (m_crop_touched a0 a1)
 let c3 : Bool := (m_rect_Valid a1)
 bif ((!c3) == false) then
 let x4 : Int := (((List.length c2) : Nat) : Int)
 bif (x4 == (0 : Int)) then
 ((SRect.mk (0 : Int) (0 : Int) (0 : Int) (0 : Int)), (2 : Int))
 else
 bif (pre_rect_Bound c2) then
 let c5 : SRect := (m_rect_Bound c2)
 (c5, (0 : Int))
 else default
 else
 ((SRect.mk (0 : Int) (0 : Int) (0 : Int) (0 : Int)), (2 : Int))
noncomputable def pre_crop_Area (a0 : SHeader) (a1 : SRect) : Bool :=
 let c1 : Int := (m_params_Header a0)
 bif (c1 != (0 : Int)) then
 true
 else
 let c2 : Rows := (m_crop_touched a0 a1)
 let c3 : Bool := (m_rect_Valid a1)
 bif ((!c3) == false) then
 let x4 : Int := (((List.length c2) : Nat) : Int)
 bif (x4 == (0 : Int)) then
 true
 else
 bif (pre_rect_Bound c2) then
 true
 else false
 else
 true
def m_L44_exampleHolds : Bool := true
noncomputable def m_R01_Valid (a0 : SRect) : Bool :=
 let b1 : Bool := (decide ((0 : Int) ≤ a0.X0))
 let b2 : Bool := (bif b1 then (decide (a0.X0 ≤ a0.X1)) else false)
 let b3 : Bool := (decide (a0.X1 ≤ (4096 : Int)))
 let b4 : Bool := (bif b2 then b3 else false)
 let b5 : Bool := (decide ((0 : Int) ≤ a0.Y0))
 let b6 : Bool := (bif b4 then b5 else false)
 let b7 : Bool := (bif b6 then (decide (a0.Y0 ≤ a0.Y1)) else false)
 let b8 : Bool := (decide (a0.Y1 ≤ (4096 : Int)))
 let b9 : Bool := (bif b7 then b8 else false)
 b9
noncomputable def m_R01_CeilDiv (a0 a1 : Int) : Int :=
 let b1 : Bool := (decide (a1 < (1 : Int)))
 bif b1 then
 (0 : Int)
 else
 bif (a1 != 0) then
 let x2 : Int := (IntKind.wrap .i64 (Int.tdiv a0 a1))
 bif (a1 != 0) then
 let b3 : Bool := (decide ((Int.tmod a0 a1) > (0 : Int)))
 bif b3 then
 let x4 : Int := (IntKind.wrap .i64 (x2 + (1 : Int)))
 x4
 else
 x2
 else default
 else default
noncomputable def pre_R01_CeilDiv (a0 a1 : Int) : Bool :=
 let b1 : Bool := (decide (a1 < (1 : Int)))
 bif b1 then
 true
 else
 bif (a1 != 0) then
 bif (a1 != 0) then
 let b3 : Bool := (decide ((Int.tmod a0 a1) > (0 : Int)))
 bif b3 then
 true
 else
 true
 else false
 else false
noncomputable def m_R01_Reduce (a0 : SRect) (a1 a2 : Int) : SRect :=
 let c1 : Bool := (m_R01_Valid a0)
 let b2 : Bool := (decide (a1 < (1 : Int)))
 let b3 : Bool := (bif (!c1) then true else b2)
 let b4 : Bool := (decide (a1 > (4096 : Int)))
 let b5 : Bool := (bif b3 then true else b4)
 let b6 : Bool := (decide (a2 < (1 : Int)))
 let b7 : Bool := (bif b5 then true else b6)
 let b8 : Bool := (decide (a2 > (4096 : Int)))
 let b9 : Bool := (bif b7 then true else b8)
 bif b9 then
 (SRect.mk (0 : Int) (0 : Int) (0 : Int) (0 : Int))
 else
 let c10 : Int := (m_R01_CeilDiv a0.X0 a1)
 let c11 : Int := (m_R01_CeilDiv a0.Y0 a2)
 let c12 : Int := (m_R01_CeilDiv a0.X1 a1)
 let c13 : Int := (m_R01_CeilDiv a0.Y1 a2)
 (SRect.mk c10 c11 c12 c13)
noncomputable def m_R01_Empty (a0 : SRect) : Bool :=
 let b1 : Bool := (bif (decide (a0.X0 ≥ a0.X1)) then true else (decide (a0.Y0 ≥ a0.Y1)))
 b1
noncomputable def m_R23_in (a0 a1 a2 : Int) : Bool :=
 let b1 : Bool := (bif (decide (a1 ≤ a0)) then (decide (a0 ≤ a2)) else false)
 b1
noncomputable def m_R01_FloorDiv (a0 a1 : Int) : Int :=
 let b1 : Bool := (decide (a1 < (1 : Int)))
 bif b1 then
 (0 : Int)
 else
 bif (a1 != 0) then
 let x2 : Int := (IntKind.wrap .i64 (Int.tdiv a0 a1))
 bif (a1 != 0) then
 let b3 : Bool := (decide ((Int.tmod a0 a1) < (0 : Int)))
 bif b3 then
 let x4 : Int := (IntKind.wrap .i64 (x2 - (1 : Int)))
 x4
 else
 x2
 else default
 else default
noncomputable def pre_R01_FloorDiv (a0 a1 : Int) : Bool :=
 let b1 : Bool := (decide (a1 < (1 : Int)))
 bif b1 then
 true
 else
 bif (a1 != 0) then
 bif (a1 != 0) then
 let b3 : Bool := (decide ((Int.tmod a0 a1) < (0 : Int)))
 bif b3 then
 true
 else
 true
 else false
 else false
noncomputable def m_R23_tiles (a0 : SHeader) : Int :=
 let c1 : Int := (m_R01_CeilDiv a0.Area.X1 a0.TileW)
 let c2 : Int := (m_R01_FloorDiv a0.Area.X0 a0.TileW)
 let x3 : Int := (IntKind.wrap .i64 (c1 - c2))
 let c4 : Int := (m_R01_CeilDiv a0.Area.Y1 a0.TileH)
 let c5 : Int := (m_R01_FloorDiv a0.Area.Y0 a0.TileH)
 let x6 : Int := (IntKind.wrap .i64 (c4 - c5))
 let x7 : Int := (IntKind.wrap .i64 (x3 * x6))
 x7
noncomputable def m_R01_Area (a0 : SRect) : Int :=
 let c1 : Bool := (m_R01_Valid a0)
 bif (!c1) then
 (0 : Int)
 else
 let x2 : Int := (IntKind.wrap .i64 (a0.X1 - a0.X0))
 let x3 : Int := (IntKind.wrap .i64 (a0.Y1 - a0.Y0))
 let x4 : Int := (IntKind.wrap .i64 (x2 * x3))
 x4
def m_R23_Header (h : SHeader) : Int := m_params_Header h
noncomputable def m_R01_Intersect (a0 a1 : SRect) : SRect :=
 let x1 : Int := (bif (decide (a1.X0 > a0.X0)) then a1.X0 else a0.X0)
 let x2 : Int := (bif (decide (a1.Y0 > a0.Y0)) then a1.Y0 else a0.Y0)
 let x3 : Int := (bif (decide (a1.X1 < a0.X1)) then a1.X1 else a0.X1)
 let x4 : Int := (bif (decide (a1.Y1 < a0.Y1)) then a1.Y1 else a0.Y1)
 let c5 : Bool := (m_R01_Empty (SRect.mk x1 x2 x3 x4))
 bif c5 then
 (SRect.mk (0 : Int) (0 : Int) (0 : Int) (0 : Int))
 else
 (SRect.mk x1 x2 x3 x4)
def m_R01_Cells (r : SRect) (w h : Int) : Rows := m_rect_Cells r w h
noncomputable def m_R24_Tiles (a0 : SHeader) : Rows :=
 let c1 : Int := (m_R23_Header a0)
 bif (c1 != (0 : Int)) then
 []
 else
 let c2 : Rows := (m_R01_Cells a0.Area a0.TileW a0.TileH)
 c2
def m_R01_Bound (l : Rows) : SRect := m_rect_Bound l
def pre_R01_Bound (l : Rows) : Bool := Nat.ble l.length 1099511627776
def m_R44_Area (h : SHeader) (w : SRect) : SRect × Int := m_crop_Area h w
def m_L44_CropAreas (h : SHeader) (w : SRect) : Bool := true
end Go.Vm
