import Derived.Test.YtoldachfmeghkaaGreatWT
set_option linter.unusedVariables false
set_option linter.unusedSimpArgs false
set_option maxRecDepth 100000
noncomputable section
namespace Go.Vm
open Go.Proofs
noncomputable def hp_R28_ReadUint (l : List At) : Bool := match l with
  | .r x0 :: .i x1 :: .i x2 :: [] => pre_R28_ReadUint x0 x1 x2
  | _ => false
noncomputable def hr_R28_ReadUint (l : List At) : V := match l with
  | .r x0 :: .i x1 :: .i x2 :: [] => (V.tup [(V.int .i64 (m_R28_ReadUint x0 x1 x2).1), (V.int .i64 (m_R28_ReadUint x0 x1 x2).2)])
  | _ => .undef
abbrev args_R28_ReadUint : List T := [.data [.int .u8], .int .i64, .int .i64]
noncomputable def c_R28_ReadUint {R : Type} : CallF R := callHook args_R28_ReadUint hp_R28_ReadUint hr_R28_ReadUint
abbrev G_R28_ReadUint : Prop := Good1 (R := V) Tryz.prog 32 c_R28_ReadUint
noncomputable def hp_R28_Known (l : List At) : Bool := match l with
  | .i _ :: [] => true
  | _ => false
noncomputable def hr_R28_Known (l : List At) : V := match l with
  | .i x0 :: [] => (V.bool (m_R28_Known x0))
  | _ => .undef
abbrev args_R28_Known : List T := [.int .i64]
noncomputable def c_R28_Known {R : Type} : CallF R := callHook args_R28_Known hp_R28_Known hr_R28_Known
abbrev G_R28_Known : Prop := Good1 (R := V) Tryz.prog 61 c_R28_Known
noncomputable def hp_R28_Bare (l : List At) : Bool := match l with
  | .i _ :: [] => true
  | _ => false
noncomputable def hr_R28_Bare (l : List At) : V := match l with
  | .i x0 :: [] => (V.bool (m_R28_Bare x0))
  | _ => .undef
abbrev args_R28_Bare : List T := [.int .i64]
noncomputable def c_R28_Bare {R : Type} : CallF R := callHook args_R28_Bare hp_R28_Bare hr_R28_Bare
abbrev G_R28_Bare : Prop := Good1 (R := V) Tryz.prog 62 c_R28_Bare
noncomputable def hp_R28_Read (l : List At) : Bool := match l with
  | .r x0 :: .i x1 :: [] => pre_R28_Read x0 x1
  | _ => false
noncomputable def hr_R28_Read (l : List At) : V := match l with
  | .r x0 :: .i x1 :: [] => (V.tup [(SSegment.v (m_R28_Read x0 x1).1), (V.int .i64 (m_R28_Read x0 x1).2.1), (V.int .i64 (m_R28_Read x0 x1).2.2)])
  | _ => .undef
abbrev args_R28_Read : List T := [.data [.int .u8], .int .i64]
noncomputable def c_R28_Read {R : Type} : CallF R := callHook args_R28_Read hp_R28_Read hr_R28_Read
abbrev G_R28_Read : Prop := Good1 (R := V) Tryz.prog 31 c_R28_Read
noncomputable def hp_R28_All (l : List At) : Bool := match l with
  | .r x0 :: .i x1 :: [] => pre_R28_All x0 x1
  | _ => false
noncomputable def hr_R28_All (l : List At) : V := match l with
  | .r x0 :: .i x1 :: [] => (V.tup [(V.data SSegment.sh (m_R28_All x0 x1).1), (V.int .i64 (m_R28_All x0 x1).2.1), (V.int .i64 (m_R28_All x0 x1).2.2)])
  | _ => .undef
abbrev args_R28_All : List T := [.data [.int .u8], .int .i64]
noncomputable def c_R28_All {R : Type} : CallF R := callHook args_R28_All hp_R28_All hr_R28_All
abbrev G_R28_All : Prop := Good1 (R := V) Tryz.prog 15 c_R28_All
noncomputable def hp_R29_framed (l : List At) : Bool := match l with
  | .i _ :: .r _ :: .i _ :: .i _ :: [] => true
  | _ => false
noncomputable def hr_R29_framed (l : List At) : V := match l with
  | .i x0 :: .r x1 :: .i x2 :: .i x3 :: [] => (V.int .i64 (m_R29_framed (SSegment.mk x0 x1) x2 x3))
  | _ => .undef
abbrev args_R29_framed : List T := [.agg SSegment.ts, .int .i64, .int .i64]
noncomputable def c_R29_framed {R : Type} : CallF R := callHook args_R29_framed hp_R29_framed hr_R29_framed
abbrev G_R29_framed : Prop := Good1 (R := V) Tryz.prog 33 c_R29_framed
noncomputable def hp_R29_get (l : List At) : Bool := match l with
  | .r x0 :: .i x1 :: .i x2 :: [] => pre_R29_get x0 x1 x2
  | _ => false
noncomputable def hr_R29_get (l : List At) : V := match l with
  | .r x0 :: .i x1 :: .i x2 :: [] => (V.int .i64 (m_R29_get x0 x1 x2))
  | _ => .undef
abbrev args_R29_get : List T := [.data [.int .u8], .int .i64, .int .i64]
noncomputable def c_R29_get {R : Type} : CallF R := callHook args_R29_get hp_R29_get hr_R29_get
abbrev G_R29_get : Prop := Good1 (R := V) Tryz.prog 34 c_R29_get
noncomputable def hp_R01_Valid (l : List At) : Bool := match l with
  | .i _ :: .i _ :: .i _ :: .i _ :: [] => true
  | _ => false
noncomputable def hr_R01_Valid (l : List At) : V := match l with
  | .i x0 :: .i x1 :: .i x2 :: .i x3 :: [] => (V.bool (m_R01_Valid (SRect.mk x0 x1 x2 x3)))
  | _ => .undef
abbrev args_R01_Valid : List T := [.agg SRect.ts]
noncomputable def c_R01_Valid {R : Type} : CallF R := callHook args_R01_Valid hp_R01_Valid hr_R01_Valid
abbrev G_R01_Valid : Prop := Good1 (R := V) Tryz.prog 63 c_R01_Valid
noncomputable def hp_R01_Empty (l : List At) : Bool := match l with
  | .i _ :: .i _ :: .i _ :: .i _ :: [] => true
  | _ => false
noncomputable def hr_R01_Empty (l : List At) : V := match l with
  | .i x0 :: .i x1 :: .i x2 :: .i x3 :: [] => (V.bool (m_R01_Empty (SRect.mk x0 x1 x2 x3)))
  | _ => .undef
abbrev args_R01_Empty : List T := [.agg SRect.ts]
noncomputable def c_R01_Empty {R : Type} : CallF R := callHook args_R01_Empty hp_R01_Empty hr_R01_Empty
abbrev G_R01_Empty : Prop := Good1 (R := V) Tryz.prog 64 c_R01_Empty
noncomputable def hp_R23_in (l : List At) : Bool := match l with
  | .i _ :: .i _ :: .i _ :: [] => true
  | _ => false
noncomputable def hr_R23_in (l : List At) : V := match l with
  | .i x0 :: .i x1 :: .i x2 :: [] => (V.bool (m_R23_in x0 x1 x2))
  | _ => .undef
abbrev args_R23_in : List T := [.int .i64, .int .i64, .int .i64]
noncomputable def c_R23_in {R : Type} : CallF R := callHook args_R23_in hp_R23_in hr_R23_in
abbrev G_R23_in : Prop := Good1 (R := V) Tryz.prog 65 c_R23_in
noncomputable def hp_R01_CeilDiv (l : List At) : Bool := match l with
  | .i _ :: .i _ :: [] => true
  | _ => false
noncomputable def hr_R01_CeilDiv (l : List At) : V := match l with
  | .i x0 :: .i x1 :: [] => (V.int .i64 (m_R01_CeilDiv x0 x1))
  | _ => .undef
abbrev args_R01_CeilDiv : List T := [.int .i64, .int .i64]
noncomputable def c_R01_CeilDiv {R : Type} : CallF R := callHook args_R01_CeilDiv hp_R01_CeilDiv hr_R01_CeilDiv
abbrev G_R01_CeilDiv : Prop := Good1 (R := V) Tryz.prog 110 c_R01_CeilDiv
noncomputable def hp_R01_Reduce (l : List At) : Bool := match l with
  | .i _ :: .i _ :: .i _ :: .i _ :: .i _ :: .i _ :: [] => true
  | _ => false
noncomputable def hr_R01_Reduce (l : List At) : V := match l with
  | .i x0 :: .i x1 :: .i x2 :: .i x3 :: .i x4 :: .i x5 :: [] => (SRect.v (m_R01_Reduce (SRect.mk x0 x1 x2 x3) x4 x5))
  | _ => .undef
abbrev args_R01_Reduce : List T := [.agg SRect.ts, .int .i64, .int .i64]
noncomputable def c_R01_Reduce {R : Type} : CallF R := callHook args_R01_Reduce hp_R01_Reduce hr_R01_Reduce
abbrev G_R01_Reduce : Prop := Good1 (R := V) Tryz.prog 66 c_R01_Reduce
noncomputable def hp_R01_FloorDiv (l : List At) : Bool := match l with
  | .i _ :: .i _ :: [] => true
  | _ => false
noncomputable def hr_R01_FloorDiv (l : List At) : V := match l with
  | .i x0 :: .i x1 :: [] => (V.int .i64 (m_R01_FloorDiv x0 x1))
  | _ => .undef
abbrev args_R01_FloorDiv : List T := [.int .i64, .int .i64]
noncomputable def c_R01_FloorDiv {R : Type} : CallF R := callHook args_R01_FloorDiv hp_R01_FloorDiv hr_R01_FloorDiv
abbrev G_R01_FloorDiv : Prop := Good1 (R := V) Tryz.prog 111 c_R01_FloorDiv
noncomputable def hp_R23_tiles (l : List At) : Bool := match l with
  | .i _ :: .i _ :: .i _ :: .i _ :: .i _ :: .i _ :: .r _ :: [] => true
  | _ => false
noncomputable def hr_R23_tiles (l : List At) : V := match l with
  | .i x0 :: .i x1 :: .i x2 :: .i x3 :: .i x4 :: .i x5 :: .r x6 :: [] => (V.int .i64 (m_R23_tiles (SHeader.mk (SRect.mk x0 x1 x2 x3) x4 x5 x6)))
  | _ => .undef
abbrev args_R23_tiles : List T := [.agg SHeader.ts]
noncomputable def c_R23_tiles {R : Type} : CallF R := callHook args_R23_tiles hp_R23_tiles hr_R23_tiles
abbrev G_R23_tiles : Prop := Good1 (R := V) Tryz.prog 67 c_R23_tiles
noncomputable def hp_R01_Area (l : List At) : Bool := match l with
  | .i _ :: .i _ :: .i _ :: .i _ :: [] => true
  | _ => false
noncomputable def hr_R01_Area (l : List At) : V := match l with
  | .i x0 :: .i x1 :: .i x2 :: .i x3 :: [] => (V.int .i64 (m_R01_Area (SRect.mk x0 x1 x2 x3)))
  | _ => .undef
abbrev args_R01_Area : List T := [.agg SRect.ts]
noncomputable def c_R01_Area {R : Type} : CallF R := callHook args_R01_Area hp_R01_Area hr_R01_Area
abbrev G_R01_Area : Prop := Good1 (R := V) Tryz.prog 68 c_R01_Area
noncomputable def hp_R23_Header (l : List At) : Bool := match l with
  | .i _ :: .i _ :: .i _ :: .i _ :: .i _ :: .i _ :: .r _ :: [] => true
  | _ => false
noncomputable def hr_R23_Header (l : List At) : V := match l with
  | .i x0 :: .i x1 :: .i x2 :: .i x3 :: .i x4 :: .i x5 :: .r x6 :: [] => (V.int .i64 (m_R23_Header (SHeader.mk (SRect.mk x0 x1 x2 x3) x4 x5 x6)))
  | _ => .undef
abbrev args_R23_Header : List T := [.agg SHeader.ts]
noncomputable def c_R23_Header {R : Type} : CallF R := callHook args_R23_Header hp_R23_Header hr_R23_Header
abbrev G_R23_Header : Prop := Good1 (R := V) Tryz.prog 35 c_R23_Header
noncomputable def hp_R29_ParseSize (l : List At) : Bool := match l with
  | .i x0 :: .r x1 :: [] => pre_R29_ParseSize (SSegment.mk x0 x1)
  | _ => false
noncomputable def hr_R29_ParseSize (l : List At) : V := match l with
  | .i x0 :: .r x1 :: [] => (V.tup [(SHeader.v (m_R29_ParseSize (SSegment.mk x0 x1)).1), (V.int .i64 (m_R29_ParseSize (SSegment.mk x0 x1)).2)])
  | _ => .undef
abbrev args_R29_ParseSize : List T := [.agg SSegment.ts]
noncomputable def c_R29_ParseSize {R : Type} : CallF R := callHook args_R29_ParseSize hp_R29_ParseSize hr_R29_ParseSize
abbrev G_R29_ParseSize : Prop := Good1 (R := V) Tryz.prog 16 c_R29_ParseSize
noncomputable def hp_R29_ParseCoding (l : List At) : Bool := match l with
  | .i x0 :: .r x1 :: [] => pre_R29_ParseCoding (SSegment.mk x0 x1)
  | _ => false
noncomputable def hr_R29_ParseCoding (l : List At) : V := match l with
  | .i x0 :: .r x1 :: [] => (V.tup [(SParams.v (m_R29_ParseCoding (SSegment.mk x0 x1)).1), (V.int .i64 (m_R29_ParseCoding (SSegment.mk x0 x1)).2)])
  | _ => .undef
abbrev args_R29_ParseCoding : List T := [.agg SSegment.ts]
noncomputable def c_R29_ParseCoding {R : Type} : CallF R := callHook args_R29_ParseCoding hp_R29_ParseCoding hr_R29_ParseCoding
abbrev G_R29_ParseCoding : Prop := Good1 (R := V) Tryz.prog 17 c_R29_ParseCoding
noncomputable def hp_R23_Clone (l : List At) : Bool := match l with
  | .i x0 :: .i x1 :: .i x2 :: .i x3 :: .i x4 :: .i x5 :: .r x6 :: .i x7 :: .i x8 :: .i x9 :: .i x10 :: .i x11 :: .r x12 :: .i x13 :: .i x14 :: .b x15 :: .b x16 :: .b x17 :: .b x18 :: .b x19 :: .b x20 :: .b x21 :: .b x22 :: .r x23 :: .i x24 :: .i x25 :: [] => pre_R23_Clone (SHeader.mk (SRect.mk x0 x1 x2 x3) x4 x5 x6) (SParams.mk x7 x8 x9 x10 x11 x12 x13 x14 (SMode.mk x15 x16 x17 x18 x19) x20 x21 x22 x23 x24 x25)
  | _ => false
noncomputable def hr_R23_Clone (l : List At) : V := match l with
  | .i x0 :: .i x1 :: .i x2 :: .i x3 :: .i x4 :: .i x5 :: .r x6 :: .i x7 :: .i x8 :: .i x9 :: .i x10 :: .i x11 :: .r x12 :: .i x13 :: .i x14 :: .b x15 :: .b x16 :: .b x17 :: .b x18 :: .b x19 :: .b x20 :: .b x21 :: .b x22 :: .r x23 :: .i x24 :: .i x25 :: [] => (V.tup [(SHeader.v (m_R23_Clone (SHeader.mk (SRect.mk x0 x1 x2 x3) x4 x5 x6) (SParams.mk x7 x8 x9 x10 x11 x12 x13 x14 (SMode.mk x15 x16 x17 x18 x19) x20 x21 x22 x23 x24 x25)).1), (SParams.v (m_R23_Clone (SHeader.mk (SRect.mk x0 x1 x2 x3) x4 x5 x6) (SParams.mk x7 x8 x9 x10 x11 x12 x13 x14 (SMode.mk x15 x16 x17 x18 x19) x20 x21 x22 x23 x24 x25)).2)])
  | _ => .undef
abbrev args_R23_Clone : List T := [.agg SHeader.ts, .agg SParams.ts]
noncomputable def c_R23_Clone {R : Type} : CallF R := callHook args_R23_Clone hp_R23_Clone hr_R23_Clone
abbrev G_R23_Clone : Prop := Good1 (R := V) Tryz.prog 36 c_R23_Clone
noncomputable def hp_R29_ParseQuant (l : List At) : Bool := match l with
  | .i x0 :: .r x1 :: .i x2 :: .i x3 :: .i x4 :: .i x5 :: .i x6 :: .r x7 :: .i x8 :: .i x9 :: .b x10 :: .b x11 :: .b x12 :: .b x13 :: .b x14 :: .b x15 :: .b x16 :: .b x17 :: .r x18 :: .i x19 :: .i x20 :: [] => pre_R29_ParseQuant (SSegment.mk x0 x1) (SParams.mk x2 x3 x4 x5 x6 x7 x8 x9 (SMode.mk x10 x11 x12 x13 x14) x15 x16 x17 x18 x19 x20)
  | _ => false
noncomputable def hr_R29_ParseQuant (l : List At) : V := match l with
  | .i x0 :: .r x1 :: .i x2 :: .i x3 :: .i x4 :: .i x5 :: .i x6 :: .r x7 :: .i x8 :: .i x9 :: .b x10 :: .b x11 :: .b x12 :: .b x13 :: .b x14 :: .b x15 :: .b x16 :: .b x17 :: .r x18 :: .i x19 :: .i x20 :: [] => (V.tup [(SParams.v (m_R29_ParseQuant (SSegment.mk x0 x1) (SParams.mk x2 x3 x4 x5 x6 x7 x8 x9 (SMode.mk x10 x11 x12 x13 x14) x15 x16 x17 x18 x19 x20)).1), (V.int .i64 (m_R29_ParseQuant (SSegment.mk x0 x1) (SParams.mk x2 x3 x4 x5 x6 x7 x8 x9 (SMode.mk x10 x11 x12 x13 x14) x15 x16 x17 x18 x19 x20)).2)])
  | _ => .undef
abbrev args_R29_ParseQuant : List T := [.agg SSegment.ts, .agg SParams.ts]
noncomputable def c_R29_ParseQuant {R : Type} : CallF R := callHook args_R29_ParseQuant hp_R29_ParseQuant hr_R29_ParseQuant
abbrev G_R29_ParseQuant : Prop := Good1 (R := V) Tryz.prog 18 c_R29_ParseQuant
noncomputable def hp_R01_Intersect (l : List At) : Bool := match l with
  | .i _ :: .i _ :: .i _ :: .i _ :: .i _ :: .i _ :: .i _ :: .i _ :: [] => true
  | _ => false
noncomputable def hr_R01_Intersect (l : List At) : V := match l with
  | .i x0 :: .i x1 :: .i x2 :: .i x3 :: .i x4 :: .i x5 :: .i x6 :: .i x7 :: [] => (SRect.v (m_R01_Intersect (SRect.mk x0 x1 x2 x3) (SRect.mk x4 x5 x6 x7)))
  | _ => .undef
abbrev args_R01_Intersect : List T := [.agg SRect.ts, .agg SRect.ts]
noncomputable def c_R01_Intersect {R : Type} : CallF R := callHook args_R01_Intersect hp_R01_Intersect hr_R01_Intersect
abbrev G_R01_Intersect : Prop := Good1 (R := V) Tryz.prog 112 c_R01_Intersect
noncomputable def hp_R01_Cells (l : List At) : Bool := match l with
  | .i _ :: .i _ :: .i _ :: .i _ :: .i _ :: .i _ :: [] => true
  | _ => false
noncomputable def hr_R01_Cells (l : List At) : V := match l with
  | .i x0 :: .i x1 :: .i x2 :: .i x3 :: .i x4 :: .i x5 :: [] => (V.data SRect.sh (m_R01_Cells (SRect.mk x0 x1 x2 x3) x4 x5))
  | _ => .undef
abbrev args_R01_Cells : List T := [.agg SRect.ts, .int .i64, .int .i64]
noncomputable def c_R01_Cells {R : Type} : CallF R := callHook args_R01_Cells hp_R01_Cells hr_R01_Cells
abbrev G_R01_Cells : Prop := Good1 (R := V) Tryz.prog 69 c_R01_Cells
noncomputable def hp_R24_Tiles (l : List At) : Bool := match l with
  | .i _ :: .i _ :: .i _ :: .i _ :: .i _ :: .i _ :: .r _ :: [] => true
  | _ => false
noncomputable def hr_R24_Tiles (l : List At) : V := match l with
  | .i x0 :: .i x1 :: .i x2 :: .i x3 :: .i x4 :: .i x5 :: .r x6 :: [] => (V.data SRect.sh (m_R24_Tiles (SHeader.mk (SRect.mk x0 x1 x2 x3) x4 x5 x6)))
  | _ => .undef
abbrev args_R24_Tiles : List T := [.agg SHeader.ts]
noncomputable def c_R24_Tiles {R : Type} : CallF R := callHook args_R24_Tiles hp_R24_Tiles hr_R24_Tiles
abbrev G_R24_Tiles : Prop := Good1 (R := V) Tryz.prog 37 c_R24_Tiles
noncomputable def hp_R23_kinds (l : List At) : Bool := match l with
  | .i _ :: .i _ :: .i _ :: .i _ :: .i _ :: .r _ :: .i _ :: .i _ :: .b _ :: .b _ :: .b _ :: .b _ :: .b _ :: .b _ :: .b _ :: .b _ :: .r _ :: .i _ :: .i _ :: [] => true
  | _ => false
noncomputable def hr_R23_kinds (l : List At) : V := match l with
  | .i x0 :: .i x1 :: .i x2 :: .i x3 :: .i x4 :: .r x5 :: .i x6 :: .i x7 :: .b x8 :: .b x9 :: .b x10 :: .b x11 :: .b x12 :: .b x13 :: .b x14 :: .b x15 :: .r x16 :: .i x17 :: .i x18 :: [] => (V.bool (m_R23_kinds (SParams.mk x0 x1 x2 x3 x4 x5 x6 x7 (SMode.mk x8 x9 x10 x11 x12) x13 x14 x15 x16 x17 x18)))
  | _ => .undef
abbrev args_R23_kinds : List T := [.agg SParams.ts]
noncomputable def c_R23_kinds {R : Type} : CallF R := callHook args_R23_kinds hp_R23_kinds hr_R23_kinds
abbrev G_R23_kinds : Prop := Good1 (R := V) Tryz.prog 70 c_R23_kinds
noncomputable def hp_R23_numbers (l : List At) : Bool := match l with
  | .i _ :: .i _ :: .i _ :: .i _ :: .i _ :: .r _ :: .i _ :: .i _ :: .b _ :: .b _ :: .b _ :: .b _ :: .b _ :: .b _ :: .b _ :: .b _ :: .r _ :: .i _ :: .i _ :: [] => true
  | _ => false
noncomputable def hr_R23_numbers (l : List At) : V := match l with
  | .i x0 :: .i x1 :: .i x2 :: .i x3 :: .i x4 :: .r x5 :: .i x6 :: .i x7 :: .b x8 :: .b x9 :: .b x10 :: .b x11 :: .b x12 :: .b x13 :: .b x14 :: .b x15 :: .r x16 :: .i x17 :: .i x18 :: [] => (V.bool (m_R23_numbers (SParams.mk x0 x1 x2 x3 x4 x5 x6 x7 (SMode.mk x8 x9 x10 x11 x12) x13 x14 x15 x16 x17 x18)))
  | _ => .undef
abbrev args_R23_numbers : List T := [.agg SParams.ts]
noncomputable def c_R23_numbers {R : Type} : CallF R := callHook args_R23_numbers hp_R23_numbers hr_R23_numbers
abbrev G_R23_numbers : Prop := Good1 (R := V) Tryz.prog 71 c_R23_numbers
noncomputable def hp_R23_Precinct (l : List At) : Bool := match l with
  | .i _ :: .i _ :: .i _ :: .i _ :: .i _ :: .r _ :: .i _ :: .i _ :: .b _ :: .b _ :: .b _ :: .b _ :: .b _ :: .b _ :: .b _ :: .b _ :: .r _ :: .i _ :: .i _ :: .i _ :: [] => true
  | _ => false
noncomputable def hr_R23_Precinct (l : List At) : V := match l with
  | .i x0 :: .i x1 :: .i x2 :: .i x3 :: .i x4 :: .r x5 :: .i x6 :: .i x7 :: .b x8 :: .b x9 :: .b x10 :: .b x11 :: .b x12 :: .b x13 :: .b x14 :: .b x15 :: .r x16 :: .i x17 :: .i x18 :: .i x19 :: [] => (SPoint.v (m_R23_Precinct (SParams.mk x0 x1 x2 x3 x4 x5 x6 x7 (SMode.mk x8 x9 x10 x11 x12) x13 x14 x15 x16 x17 x18) x19))
  | _ => .undef
abbrev args_R23_Precinct : List T := [.agg SParams.ts, .int .i64]
noncomputable def c_R23_Precinct {R : Type} : CallF R := callHook args_R23_Precinct hp_R23_Precinct hr_R23_Precinct
abbrev G_R23_Precinct : Prop := Good1 (R := V) Tryz.prog 113 c_R23_Precinct
noncomputable def hp_R23_Grid (l : List At) : Bool := match l with
  | .i x0 :: .i x1 :: .i x2 :: .i x3 :: .i x4 :: .i x5 :: [] => pre_R23_Grid (SRect.mk x0 x1 x2 x3) x4 x5
  | _ => false
noncomputable def hr_R23_Grid (l : List At) : V := match l with
  | .i x0 :: .i x1 :: .i x2 :: .i x3 :: .i x4 :: .i x5 :: [] => (V.int .i64 (m_R23_Grid (SRect.mk x0 x1 x2 x3) x4 x5))
  | _ => .undef
abbrev args_R23_Grid : List T := [.agg SRect.ts, .int .i64, .int .i64]
noncomputable def c_R23_Grid {R : Type} : CallF R := callHook args_R23_Grid hp_R23_Grid hr_R23_Grid
abbrev G_R23_Grid : Prop := Good1 (R := V) Tryz.prog 114 c_R23_Grid
noncomputable def hp_R06_Count (l : List At) : Bool := match l with
  | .i _ :: [] => true
  | _ => false
noncomputable def hr_R06_Count (l : List At) : V := match l with
  | .i x0 :: [] => (V.int .i64 (m_R06_Count x0))
  | _ => .undef
abbrev args_R06_Count : List T := [.int .i64]
noncomputable def c_R06_Count {R : Type} : CallF R := callHook args_R06_Count hp_R06_Count hr_R06_Count
abbrev G_R06_Count : Prop := Good1 (R := V) Tryz.prog 151 c_R06_Count
noncomputable def hp_R06_Resolution (l : List At) : Bool := match l with
  | .i _ :: .i _ :: .i _ :: .i _ :: .i _ :: .i _ :: [] => true
  | _ => false
noncomputable def hr_R06_Resolution (l : List At) : V := match l with
  | .i x0 :: .i x1 :: .i x2 :: .i x3 :: .i x4 :: .i x5 :: [] => (SRect.v (m_R06_Resolution (SRect.mk x0 x1 x2 x3) x4 x5))
  | _ => .undef
abbrev args_R06_Resolution : List T := [.agg SRect.ts, .int .i64, .int .i64]
noncomputable def c_R06_Resolution {R : Type} : CallF R := callHook args_R06_Resolution hp_R06_Resolution hr_R06_Resolution
abbrev G_R06_Resolution : Prop := Good1 (R := V) Tryz.prog 115 c_R06_Resolution
noncomputable def hp_R23_Packets (l : List At) : Bool := match l with
  | .i x0 :: .i x1 :: .i x2 :: .i x3 :: .i x4 :: .i x5 :: .r x6 :: .i x7 :: .i x8 :: .i x9 :: .i x10 :: .i x11 :: .r x12 :: .i x13 :: .i x14 :: .b x15 :: .b x16 :: .b x17 :: .b x18 :: .b x19 :: .b x20 :: .b x21 :: .b x22 :: .r x23 :: .i x24 :: .i x25 :: .i x26 :: .i x27 :: .i x28 :: .i x29 :: [] => pre_R23_Packets (SHeader.mk (SRect.mk x0 x1 x2 x3) x4 x5 x6) (SParams.mk x7 x8 x9 x10 x11 x12 x13 x14 (SMode.mk x15 x16 x17 x18 x19) x20 x21 x22 x23 x24 x25) (SRect.mk x26 x27 x28 x29)
  | _ => false
noncomputable def hr_R23_Packets (l : List At) : V := match l with
  | .i x0 :: .i x1 :: .i x2 :: .i x3 :: .i x4 :: .i x5 :: .r x6 :: .i x7 :: .i x8 :: .i x9 :: .i x10 :: .i x11 :: .r x12 :: .i x13 :: .i x14 :: .b x15 :: .b x16 :: .b x17 :: .b x18 :: .b x19 :: .b x20 :: .b x21 :: .b x22 :: .r x23 :: .i x24 :: .i x25 :: .i x26 :: .i x27 :: .i x28 :: .i x29 :: [] => (V.int .i64 (m_R23_Packets (SHeader.mk (SRect.mk x0 x1 x2 x3) x4 x5 x6) (SParams.mk x7 x8 x9 x10 x11 x12 x13 x14 (SMode.mk x15 x16 x17 x18 x19) x20 x21 x22 x23 x24 x25) (SRect.mk x26 x27 x28 x29)))
  | _ => .undef
abbrev args_R23_Packets : List T := [.agg SHeader.ts, .agg SParams.ts, .agg SRect.ts]
noncomputable def c_R23_Packets {R : Type} : CallF R := callHook args_R23_Packets hp_R23_Packets hr_R23_Packets
abbrev G_R23_Packets : Prop := Good1 (R := V) Tryz.prog 72 c_R23_Packets
noncomputable def hp_R06_Place (l : List At) : Bool := match l with
  | .i _ :: .i _ :: [] => true
  | _ => false
noncomputable def hr_R06_Place (l : List At) : V := match l with
  | .i x0 :: .i x1 :: [] => (V.tup [(V.int .i64 (m_R06_Place x0 x1).1), (V.int .i64 (m_R06_Place x0 x1).2.1), (V.bool (m_R06_Place x0 x1).2.2)])
  | _ => .undef
abbrev args_R06_Place : List T := [.int .i64, .int .i64]
noncomputable def c_R06_Place {R : Type} : CallF R := callHook args_R06_Place hp_R06_Place hr_R06_Place
abbrev G_R06_Place : Prop := Good1 (R := V) Tryz.prog 152 c_R06_Place
noncomputable def hp_R05_half (l : List At) : Bool := match l with
  | .i _ :: .b _ :: [] => true
  | _ => false
noncomputable def hr_R05_half (l : List At) : V := match l with
  | .i x0 :: .b x1 :: [] => (V.int .i64 (m_R05_half x0 x1))
  | _ => .undef
abbrev args_R05_half : List T := [.int .i64, .bool]
noncomputable def c_R05_half {R : Type} : CallF R := callHook args_R05_half hp_R05_half hr_R05_half
abbrev G_R05_half : Prop := Good1 (R := V) Tryz.prog 184 c_R05_half
noncomputable def hp_R05_Bands (l : List At) : Bool := match l with
  | .i _ :: .i _ :: .i _ :: .i _ :: [] => true
  | _ => false
noncomputable def hr_R05_Bands (l : List At) : V := match l with
  | .i x0 :: .i x1 :: .i x2 :: .i x3 :: [] => (SA4_Rect.v (m_R05_Bands (SRect.mk x0 x1 x2 x3)))
  | _ => .undef
abbrev args_R05_Bands : List T := [.agg SRect.ts]
noncomputable def c_R05_Bands {R : Type} : CallF R := callHook args_R05_Bands hp_R05_Bands hr_R05_Bands
abbrev G_R05_Bands : Prop := Good1 (R := V) Tryz.prog 153 c_R05_Bands
noncomputable def hp_R06_Band (l : List At) : Bool := match l with
  | .i _ :: .i _ :: .i _ :: .i _ :: .i _ :: .i _ :: [] => true
  | _ => false
noncomputable def hr_R06_Band (l : List At) : V := match l with
  | .i x0 :: .i x1 :: .i x2 :: .i x3 :: .i x4 :: .i x5 :: [] => (SRect.v (m_R06_Band (SRect.mk x0 x1 x2 x3) x4 x5))
  | _ => .undef
abbrev args_R06_Band : List T := [.agg SRect.ts, .int .i64, .int .i64]
noncomputable def c_R06_Band {R : Type} : CallF R := callHook args_R06_Band hp_R06_Band hr_R06_Band
abbrev G_R06_Band : Prop := Good1 (R := V) Tryz.prog 116 c_R06_Band
noncomputable def hp_R23_Blocks (l : List At) : Bool := match l with
  | .i x0 :: .i x1 :: .i x2 :: .i x3 :: .i x4 :: .i x5 :: .r x6 :: .i x7 :: .i x8 :: .i x9 :: .i x10 :: .i x11 :: .r x12 :: .i x13 :: .i x14 :: .b x15 :: .b x16 :: .b x17 :: .b x18 :: .b x19 :: .b x20 :: .b x21 :: .b x22 :: .r x23 :: .i x24 :: .i x25 :: .i x26 :: .i x27 :: .i x28 :: .i x29 :: [] => pre_R23_Blocks (SHeader.mk (SRect.mk x0 x1 x2 x3) x4 x5 x6) (SParams.mk x7 x8 x9 x10 x11 x12 x13 x14 (SMode.mk x15 x16 x17 x18 x19) x20 x21 x22 x23 x24 x25) (SRect.mk x26 x27 x28 x29)
  | _ => false
noncomputable def hr_R23_Blocks (l : List At) : V := match l with
  | .i x0 :: .i x1 :: .i x2 :: .i x3 :: .i x4 :: .i x5 :: .r x6 :: .i x7 :: .i x8 :: .i x9 :: .i x10 :: .i x11 :: .r x12 :: .i x13 :: .i x14 :: .b x15 :: .b x16 :: .b x17 :: .b x18 :: .b x19 :: .b x20 :: .b x21 :: .b x22 :: .r x23 :: .i x24 :: .i x25 :: .i x26 :: .i x27 :: .i x28 :: .i x29 :: [] => (V.int .i64 (m_R23_Blocks (SHeader.mk (SRect.mk x0 x1 x2 x3) x4 x5 x6) (SParams.mk x7 x8 x9 x10 x11 x12 x13 x14 (SMode.mk x15 x16 x17 x18 x19) x20 x21 x22 x23 x24 x25) (SRect.mk x26 x27 x28 x29)))
  | _ => .undef
abbrev args_R23_Blocks : List T := [.agg SHeader.ts, .agg SParams.ts, .agg SRect.ts]
noncomputable def c_R23_Blocks {R : Type} : CallF R := callHook args_R23_Blocks hp_R23_Blocks hr_R23_Blocks
abbrev G_R23_Blocks : Prop := Good1 (R := V) Tryz.prog 73 c_R23_Blocks
noncomputable def hp_R23_Check (l : List At) : Bool := match l with
  | .i _ :: .i _ :: .i _ :: .i _ :: .i _ :: .i _ :: .r _ :: .i _ :: .i _ :: .i _ :: .i _ :: .i _ :: .r _ :: .i _ :: .i _ :: .b _ :: .b _ :: .b _ :: .b _ :: .b _ :: .b _ :: .b _ :: .b _ :: .r _ :: .i _ :: .i _ :: [] => true
  | _ => false
noncomputable def hr_R23_Check (l : List At) : V := match l with
  | .i x0 :: .i x1 :: .i x2 :: .i x3 :: .i x4 :: .i x5 :: .r x6 :: .i x7 :: .i x8 :: .i x9 :: .i x10 :: .i x11 :: .r x12 :: .i x13 :: .i x14 :: .b x15 :: .b x16 :: .b x17 :: .b x18 :: .b x19 :: .b x20 :: .b x21 :: .b x22 :: .r x23 :: .i x24 :: .i x25 :: [] => (V.int .i64 (m_R23_Check (SHeader.mk (SRect.mk x0 x1 x2 x3) x4 x5 x6) (SParams.mk x7 x8 x9 x10 x11 x12 x13 x14 (SMode.mk x15 x16 x17 x18 x19) x20 x21 x22 x23 x24 x25)))
  | _ => .undef
abbrev args_R23_Check : List T := [.agg SHeader.ts, .agg SParams.ts]
noncomputable def c_R23_Check {R : Type} : CallF R := callHook args_R23_Check hp_R23_Check hr_R23_Check
abbrev G_R23_Check : Prop := Good1 (R := V) Tryz.prog 38 c_R23_Check
noncomputable def hp_R24_ValidTile (l : List At) : Bool := match l with
  | .i _ :: .i _ :: .i _ :: .i _ :: .i _ :: .i _ :: .r _ :: .i _ :: .i _ :: .i _ :: .i _ :: .i _ :: .r _ :: .i _ :: .i _ :: .b _ :: .b _ :: .b _ :: .b _ :: .b _ :: .b _ :: .b _ :: .b _ :: .r _ :: .i _ :: .i _ :: .i _ :: .i _ :: [] => true
  | _ => false
noncomputable def hr_R24_ValidTile (l : List At) : V := match l with
  | .i x0 :: .i x1 :: .i x2 :: .i x3 :: .i x4 :: .i x5 :: .r x6 :: .i x7 :: .i x8 :: .i x9 :: .i x10 :: .i x11 :: .r x12 :: .i x13 :: .i x14 :: .b x15 :: .b x16 :: .b x17 :: .b x18 :: .b x19 :: .b x20 :: .b x21 :: .b x22 :: .r x23 :: .i x24 :: .i x25 :: .i x26 :: .i x27 :: [] => (V.bool (m_R24_ValidTile (SHeader.mk (SRect.mk x0 x1 x2 x3) x4 x5 x6) (SParams.mk x7 x8 x9 x10 x11 x12 x13 x14 (SMode.mk x15 x16 x17 x18 x19) x20 x21 x22 x23 x24 x25) x26 x27))
  | _ => .undef
abbrev args_R24_ValidTile : List T := [.agg SHeader.ts, .agg SParams.ts, .int .i64, .int .i64]
noncomputable def c_R24_ValidTile {R : Type} : CallF R := callHook args_R24_ValidTile hp_R24_ValidTile hr_R24_ValidTile
abbrev G_R24_ValidTile : Prop := Good1 (R := V) Tryz.prog 74 c_R24_ValidTile
noncomputable def hp_R24_Packets (l : List At) : Bool := match l with
  | .i x0 :: .i x1 :: .i x2 :: .i x3 :: .i x4 :: .i x5 :: .r x6 :: .i x7 :: .i x8 :: .i x9 :: .i x10 :: .i x11 :: .r x12 :: .i x13 :: .i x14 :: .b x15 :: .b x16 :: .b x17 :: .b x18 :: .b x19 :: .b x20 :: .b x21 :: .b x22 :: .r x23 :: .i x24 :: .i x25 :: .i x26 :: [] => pre_R24_Packets (SHeader.mk (SRect.mk x0 x1 x2 x3) x4 x5 x6) (SParams.mk x7 x8 x9 x10 x11 x12 x13 x14 (SMode.mk x15 x16 x17 x18 x19) x20 x21 x22 x23 x24 x25) x26
  | _ => false
noncomputable def hr_R24_Packets (l : List At) : V := match l with
  | .i x0 :: .i x1 :: .i x2 :: .i x3 :: .i x4 :: .i x5 :: .r x6 :: .i x7 :: .i x8 :: .i x9 :: .i x10 :: .i x11 :: .r x12 :: .i x13 :: .i x14 :: .b x15 :: .b x16 :: .b x17 :: .b x18 :: .b x19 :: .b x20 :: .b x21 :: .b x22 :: .r x23 :: .i x24 :: .i x25 :: .i x26 :: [] => (V.int .i64 (m_R24_Packets (SHeader.mk (SRect.mk x0 x1 x2 x3) x4 x5 x6) (SParams.mk x7 x8 x9 x10 x11 x12 x13 x14 (SMode.mk x15 x16 x17 x18 x19) x20 x21 x22 x23 x24 x25) x26))
  | _ => .undef
abbrev args_R24_Packets : List T := [.agg SHeader.ts, .agg SParams.ts, .int .i64]
noncomputable def c_R24_Packets {R : Type} : CallF R := callHook args_R24_Packets hp_R24_Packets hr_R24_Packets
abbrev G_R24_Packets : Prop := Good1 (R := V) Tryz.prog 39 c_R24_Packets
noncomputable def hp_R35_Few (l : List At) : Bool := match l with
  | .i _ :: .i _ :: .i _ :: .i _ :: .i _ :: .i _ :: .r _ :: .i _ :: .i _ :: .i _ :: .i _ :: .i _ :: .r _ :: .i _ :: .i _ :: .b _ :: .b _ :: .b _ :: .b _ :: .b _ :: .b _ :: .b _ :: .b _ :: .r _ :: .i _ :: .i _ :: [] => true
  | _ => false
noncomputable def hr_R35_Few (l : List At) : V := match l with
  | .i x0 :: .i x1 :: .i x2 :: .i x3 :: .i x4 :: .i x5 :: .r x6 :: .i x7 :: .i x8 :: .i x9 :: .i x10 :: .i x11 :: .r x12 :: .i x13 :: .i x14 :: .b x15 :: .b x16 :: .b x17 :: .b x18 :: .b x19 :: .b x20 :: .b x21 :: .b x22 :: .r x23 :: .i x24 :: .i x25 :: [] => (V.bool (m_R35_Few (SHeader.mk (SRect.mk x0 x1 x2 x3) x4 x5 x6) (SParams.mk x7 x8 x9 x10 x11 x12 x13 x14 (SMode.mk x15 x16 x17 x18 x19) x20 x21 x22 x23 x24 x25)))
  | _ => .undef
abbrev args_R35_Few : List T := [.agg SHeader.ts, .agg SParams.ts]
noncomputable def c_R35_Few {R : Type} : CallF R := callHook args_R35_Few hp_R35_Few hr_R35_Few
abbrev G_R35_Few : Prop := Good1 (R := V) Tryz.prog 19 c_R35_Few
noncomputable def hp_R35_FewBytes (l : List At) : Bool := match l with
  | .r x0 :: [] => pre_R35_FewBytes x0
  | _ => false
noncomputable def hr_R35_FewBytes (l : List At) : V := match l with
  | .r x0 :: [] => (V.bool (m_R35_FewBytes x0))
  | _ => .undef
abbrev args_R35_FewBytes : List T := [.data [.int .u8]]
noncomputable def c_R35_FewBytes {R : Type} : CallF R := callHook args_R35_FewBytes hp_R35_FewBytes hr_R35_FewBytes
abbrev G_R35_FewBytes : Prop := Good1 (R := V) Tryz.prog 8 c_R35_FewBytes
noncomputable def hp_R48_Few (l : List At) : Bool := match l with
  | .i x0 :: .r x1 :: .r x2 :: .r x3 :: .r x4 :: [] => pre_R48_Few (SFile.mk (SColor.mk x0 x1 x2) x3 x4)
  | _ => false
noncomputable def hr_R48_Few (l : List At) : V := match l with
  | .i x0 :: .r x1 :: .r x2 :: .r x3 :: .r x4 :: [] => (V.bool (m_R48_Few (SFile.mk (SColor.mk x0 x1 x2) x3 x4)))
  | _ => .undef
abbrev args_R48_Few : List T := [.agg SFile.ts]
noncomputable def c_R48_Few {R : Type} : CallF R := callHook args_R48_Few hp_R48_Few hr_R48_Few
abbrev G_R48_Few : Prop := Good1 (R := V) Tryz.prog 4 c_R48_Few
noncomputable def hp_file_Parse (l : List At) : Bool := match l with
  | .r x0 :: [] => pre_file_Parse x0
  | _ => false
noncomputable def hr_file_Parse (l : List At) : V := match l with
  | .r x0 :: [] => (V.tup [(SFile.v (m_file_Parse x0).1), (V.int .i64 (m_file_Parse x0).2)])
  | _ => .undef
abbrev args_file_Parse : List T := [.data [.int .u8]]
noncomputable def c_file_Parse {R : Type} : CallF R := callHook args_file_Parse hp_file_Parse hr_file_Parse
abbrev G_file_Parse : Prop := Good1 (R := V) Tryz.prog 9 c_file_Parse
noncomputable def hp_file_Valid (l : List At) : Bool := match l with
  | .i x0 :: .r x1 :: .r x2 :: .r x3 :: .r x4 :: [] => pre_file_Valid (SFile.mk (SColor.mk x0 x1 x2) x3 x4)
  | _ => false
noncomputable def hr_file_Valid (l : List At) : V := match l with
  | .i x0 :: .r x1 :: .r x2 :: .r x3 :: .r x4 :: [] => (V.int .i64 (m_file_Valid (SFile.mk (SColor.mk x0 x1 x2) x3 x4)))
  | _ => .undef
abbrev args_file_Valid : List T := [.agg SFile.ts]
noncomputable def c_file_Valid {R : Type} : CallF R := callHook args_file_Valid hp_file_Valid hr_file_Valid
abbrev G_file_Valid : Prop := Good1 (R := V) Tryz.prog 10 c_file_Valid
noncomputable def hp_L48_awake (l : List At) : Bool := match l with
  | [] => true
  | _ => false
noncomputable def hr_L48_awake (l : List At) : V := match l with
  | [] => (V.bool m_L48_awake)
  | _ => .undef
abbrev args_L48_awake : List T := []
noncomputable def c_L48_awake {R : Type} : CallF R := callHook args_L48_awake hp_L48_awake hr_L48_awake
abbrev G_L48_awake : Prop := Good1 (R := V) Tryz.prog 5 c_L48_awake
noncomputable def hp_slices_Equal_int_int (l : List At) : Bool := match l with
  | .r x0 :: .r x1 :: [] => pre_slices_Equal_int_int x0 x1
  | _ => false
noncomputable def hr_slices_Equal_int_int (l : List At) : V := match l with
  | .r x0 :: .r x1 :: [] => (V.bool (m_slices_Equal_int_int x0 x1))
  | _ => .undef
abbrev args_slices_Equal_int_int : List T := [.data Sbox_reader.sh, .data Sbox_reader.sh]
noncomputable def c_slices_Equal_int_int {R : Type} : CallF R := callHook args_slices_Equal_int_int hp_slices_Equal_int_int hr_slices_Equal_int_int
abbrev G_slices_Equal_int_int : Prop := Good1 (R := V) Tryz.prog 27 c_slices_Equal_int_int
noncomputable def hp_colorspec_Same_1 (l : List At) : Bool := match l with
  | .r x0 :: .r x1 :: [] => pre_colorspec_Same_1 x0 x1
  | _ => false
noncomputable def hr_colorspec_Same_1 (l : List At) : V := match l with
  | .r x0 :: .r x1 :: [] => (V.bool (m_colorspec_Same_1 x0 x1))
  | _ => .undef
abbrev args_colorspec_Same_1 : List T := [.data Sbox_reader.sh, .data Sbox_reader.sh]
noncomputable def c_colorspec_Same_1 {R : Type} : CallF R := callHook args_colorspec_Same_1 hp_colorspec_Same_1 hr_colorspec_Same_1
abbrev G_colorspec_Same_1 : Prop := Good1 (R := V) Tryz.prog 29 c_colorspec_Same_1
noncomputable def hp_slices_EqualFunc_int_int_int_int (l : List At) : Bool := match l with
  | .r x0 :: .r x1 :: [] => pre_slices_EqualFunc_int_int_int_int x0 x1
  | _ => false
noncomputable def hr_slices_EqualFunc_int_int_int_int (l : List At) : V := match l with
  | .r x0 :: .r x1 :: [] => (V.bool (m_slices_EqualFunc_int_int_int_int x0 x1))
  | _ => .undef
abbrev args_slices_EqualFunc_int_int_int_int : List T := [.data [.sl Sbox_reader.sh], .data [.sl Sbox_reader.sh], .fn 29 []]
noncomputable def c_slices_EqualFunc_int_int_int_int {R : Type} : CallF R := callHook args_slices_EqualFunc_int_int_int_int hp_slices_EqualFunc_int_int_int_int hr_slices_EqualFunc_int_int_int_int
abbrev G_slices_EqualFunc_int_int_int_int : Prop := Good1 (R := V) Tryz.prog 28 c_slices_EqualFunc_int_int_int_int
noncomputable def hp_colorspec_Same (l : List At) : Bool := match l with
  | .i x0 :: .r x1 :: .r x2 :: .i x3 :: .r x4 :: .r x5 :: [] => pre_colorspec_Same (SColor.mk x0 x1 x2) (SColor.mk x3 x4 x5)
  | _ => false
noncomputable def hr_colorspec_Same (l : List At) : V := match l with
  | .i x0 :: .r x1 :: .r x2 :: .i x3 :: .r x4 :: .r x5 :: [] => (V.bool (m_colorspec_Same (SColor.mk x0 x1 x2) (SColor.mk x3 x4 x5)))
  | _ => .undef
abbrev args_colorspec_Same : List T := [.agg SColor.ts, .agg SColor.ts]
noncomputable def c_colorspec_Same {R : Type} : CallF R := callHook args_colorspec_Same hp_colorspec_Same hr_colorspec_Same
abbrev G_colorspec_Same : Prop := Good1 (R := V) Tryz.prog 11 c_colorspec_Same
noncomputable def hp_file_Same (l : List At) : Bool := match l with
  | .i x0 :: .r x1 :: .r x2 :: .r x3 :: .r x4 :: .i x5 :: .r x6 :: .r x7 :: .r x8 :: .r x9 :: [] => pre_file_Same (SFile.mk (SColor.mk x0 x1 x2) x3 x4) (SFile.mk (SColor.mk x5 x6 x7) x8 x9)
  | _ => false
noncomputable def hr_file_Same (l : List At) : V := match l with
  | .i x0 :: .r x1 :: .r x2 :: .r x3 :: .r x4 :: .i x5 :: .r x6 :: .r x7 :: .r x8 :: .r x9 :: [] => (V.bool (m_file_Same (SFile.mk (SColor.mk x0 x1 x2) x3 x4) (SFile.mk (SColor.mk x5 x6 x7) x8 x9)))
  | _ => .undef
abbrev args_file_Same : List T := [.agg SFile.ts, .agg SFile.ts]
noncomputable def c_file_Same {R : Type} : CallF R := callHook args_file_Same hp_file_Same hr_file_Same
abbrev G_file_Same : Prop := Good1 (R := V) Tryz.prog 6 c_file_Same
noncomputable def hp_R46_sameInts (l : List At) : Bool := match l with
  | .r x0 :: .r x1 :: [] => pre_R46_sameInts x0 x1
  | _ => false
noncomputable def hr_R46_sameInts (l : List At) : V := match l with
  | .r x0 :: .r x1 :: [] => (V.bool (m_R46_sameInts x0 x1))
  | _ => .undef
abbrev args_R46_sameInts : List T := [.data Sbox_reader.sh, .data Sbox_reader.sh]
noncomputable def c_R46_sameInts {R : Type} : CallF R := callHook args_R46_sameInts hp_R46_sameInts hr_R46_sameInts
abbrev G_R46_sameInts : Prop := Good1 (R := V) Tryz.prog 30 c_R46_sameInts
noncomputable def hp_R46_Same (l : List At) : Bool := match l with
  | .i x0 :: .r x1 :: .r x2 :: .i x3 :: .r x4 :: .r x5 :: [] => pre_R46_Same (SColor.mk x0 x1 x2) (SColor.mk x3 x4 x5)
  | _ => false
noncomputable def hr_R46_Same (l : List At) : V := match l with
  | .i x0 :: .r x1 :: .r x2 :: .i x3 :: .r x4 :: .r x5 :: [] => (V.bool (m_R46_Same (SColor.mk x0 x1 x2) (SColor.mk x3 x4 x5)))
  | _ => .undef
abbrev args_R46_Same : List T := [.agg SColor.ts, .agg SColor.ts]
noncomputable def c_R46_Same {R : Type} : CallF R := callHook args_R46_Same hp_R46_Same hr_R46_Same
abbrev G_R46_Same : Prop := Good1 (R := V) Tryz.prog 12 c_R46_Same
noncomputable def hp_R47_Same (l : List At) : Bool := match l with
  | .r x0 :: .r x1 :: [] => pre_R47_Same x0 x1
  | _ => false
noncomputable def hr_R47_Same (l : List At) : V := match l with
  | .r x0 :: .r x1 :: [] => (V.bool (m_R47_Same x0 x1))
  | _ => .undef
abbrev args_R47_Same : List T := [.data SMeta.sh, .data SMeta.sh]
noncomputable def c_R47_Same {R : Type} : CallF R := callHook args_R47_Same hp_R47_Same hr_R47_Same
abbrev G_R47_Same : Prop := Good1 (R := V) Tryz.prog 13 c_R47_Same
noncomputable def hp_R27_SameBytes (l : List At) : Bool := match l with
  | .r _ :: .r _ :: [] => true
  | _ => false
noncomputable def hr_R27_SameBytes (l : List At) : V := match l with
  | .r x0 :: .r x1 :: [] => (V.bool (m_R27_SameBytes x0 x1))
  | _ => .undef
abbrev args_R27_SameBytes : List T := [.data [.int .u8], .data [.int .u8]]
noncomputable def c_R27_SameBytes {R : Type} : CallF R := callHook args_R27_SameBytes hp_R27_SameBytes hr_R27_SameBytes
abbrev G_R27_SameBytes : Prop := Good1 (R := V) Tryz.prog 14 c_R27_SameBytes
noncomputable def hp_R48_Same (l : List At) : Bool := match l with
  | .i x0 :: .r x1 :: .r x2 :: .r x3 :: .r x4 :: .i x5 :: .r x6 :: .r x7 :: .r x8 :: .r x9 :: [] => pre_R48_Same (SFile.mk (SColor.mk x0 x1 x2) x3 x4) (SFile.mk (SColor.mk x5 x6 x7) x8 x9)
  | _ => false
noncomputable def hr_R48_Same (l : List At) : V := match l with
  | .i x0 :: .r x1 :: .r x2 :: .r x3 :: .r x4 :: .i x5 :: .r x6 :: .r x7 :: .r x8 :: .r x9 :: [] => (V.bool (m_R48_Same (SFile.mk (SColor.mk x0 x1 x2) x3 x4) (SFile.mk (SColor.mk x5 x6 x7) x8 x9)))
  | _ => .undef
abbrev args_R48_Same : List T := [.agg SFile.ts, .agg SFile.ts]
noncomputable def c_R48_Same {R : Type} : CallF R := callHook args_R48_Same hp_R48_Same hr_R48_Same
abbrev G_R48_Same : Prop := Good1 (R := V) Tryz.prog 7 c_R48_Same
noncomputable def hp_L48_FileSame (l : List At) : Bool := match l with
  | .i x0 :: .r x1 :: .r x2 :: .r x3 :: .r x4 :: .i x5 :: .r x6 :: .r x7 :: .r x8 :: .r x9 :: [] => pre_L48_FileSame (SFile.mk (SColor.mk x0 x1 x2) x3 x4) (SFile.mk (SColor.mk x5 x6 x7) x8 x9)
  | _ => false
noncomputable def hr_L48_FileSame (l : List At) : V := match l with
  | .i x0 :: .r x1 :: .r x2 :: .r x3 :: .r x4 :: .i x5 :: .r x6 :: .r x7 :: .r x8 :: .r x9 :: [] => (V.bool (m_L48_FileSame (SFile.mk (SColor.mk x0 x1 x2) x3 x4) (SFile.mk (SColor.mk x5 x6 x7) x8 x9)))
  | _ => .undef
abbrev args_L48_FileSame : List T := [.agg SFile.ts, .agg SFile.ts]
noncomputable def c_L48_FileSame {R : Type} : CallF R := callHook args_L48_FileSame hp_L48_FileSame hr_L48_FileSame
abbrev G_L48_FileSame : Prop := Good1 (R := V) Tryz.prog 3 c_L48_FileSame
end Go.Vm
