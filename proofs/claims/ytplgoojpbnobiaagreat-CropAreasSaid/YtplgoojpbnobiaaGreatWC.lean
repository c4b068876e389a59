import Derived.Test.YtplgoojpbnobiaaGreatWT
set_option linter.unusedVariables false
set_option linter.unusedSimpArgs false
set_option maxRecDepth 100000
noncomputable section
namespace Go.Vm
open Go.Proofs
noncomputable def hp_marker_Known (l : List At) : Bool := match l with
  | .i _ :: [] => true
  | _ => false
noncomputable def hr_marker_Known (l : List At) : V := match l with
  | .i x0 :: [] => (V.bool (m_marker_Known x0))
  | _ => .undef
abbrev args_marker_Known : List T := [.int .i64]
noncomputable def c_marker_Known {R : Type} : CallF R := callHook args_marker_Known hp_marker_Known hr_marker_Known
abbrev G_marker_Known : Prop := Good1 (R := V) Tryz.prog 88 c_marker_Known
noncomputable def hp_marker_ReadUint (l : List At) : Bool := match l with
  | .r x0 :: .i x1 :: .i x2 :: [] => pre_marker_ReadUint x0 x1 x2
  | _ => false
noncomputable def hr_marker_ReadUint (l : List At) : V := match l with
  | .r x0 :: .i x1 :: .i x2 :: [] => (V.tup [(V.int .i64 (m_marker_ReadUint x0 x1 x2).1), (V.int .i64 (m_marker_ReadUint x0 x1 x2).2)])
  | _ => .undef
abbrev args_marker_ReadUint : List T := [.data [.int .u8], .int .i64, .int .i64]
noncomputable def c_marker_ReadUint {R : Type} : CallF R := callHook args_marker_ReadUint hp_marker_ReadUint hr_marker_ReadUint
abbrev G_marker_ReadUint : Prop := Good1 (R := V) Tryz.prog 87 c_marker_ReadUint
noncomputable def hp_marker_Read (l : List At) : Bool := match l with
  | .r x0 :: .i x1 :: [] => pre_marker_Read x0 x1
  | _ => false
noncomputable def hr_marker_Read (l : List At) : V := match l with
  | .r x0 :: .i x1 :: [] => (V.tup [(SSegment.v (m_marker_Read x0 x1).1), (V.int .i64 (m_marker_Read x0 x1).2.1), (V.int .i64 (m_marker_Read x0 x1).2.2)])
  | _ => .undef
abbrev args_marker_Read : List T := [.data [.int .u8], .int .i64]
noncomputable def c_marker_Read {R : Type} : CallF R := callHook args_marker_Read hp_marker_Read hr_marker_Read
abbrev G_marker_Read : Prop := Good1 (R := V) Tryz.prog 62 c_marker_Read
noncomputable def hp_stream_readMain (l : List At) : Bool := match l with
  | .r x0 :: [] => pre_stream_readMain x0
  | _ => false
noncomputable def hr_stream_readMain (l : List At) : V := match l with
  | .r x0 :: [] => (V.tup [(Sstream_head.v (m_stream_readMain x0).1), (V.int .i64 (m_stream_readMain x0).2)])
  | _ => .undef
abbrev args_stream_readMain : List T := [.data [.int .u8]]
noncomputable def c_stream_readMain {R : Type} : CallF R := callHook args_stream_readMain hp_stream_readMain hr_stream_readMain
abbrev G_stream_readMain : Prop := Good1 (R := V) Tryz.prog 58 c_stream_readMain
noncomputable def hp_stream_Parse (l : List At) : Bool := match l with
  | .r x0 :: [] => pre_stream_Parse x0
  | _ => false
noncomputable def hr_stream_Parse (l : List At) : V := match l with
  | .r x0 :: [] => (V.tup [(SStream.v (m_stream_Parse x0).1), (V.int .i64 (m_stream_Parse x0).2)])
  | _ => .undef
abbrev args_stream_Parse : List T := [.data [.int .u8]]
noncomputable def c_stream_Parse {R : Type} : CallF R := callHook args_stream_Parse hp_stream_Parse hr_stream_Parse
abbrev G_stream_Parse : Prop := Good1 (R := V) Tryz.prog 33 c_stream_Parse
noncomputable def hp_crop_pair (l : List At) : Bool := match l with
  | .r x0 :: .r x1 :: [] => pre_crop_pair x0 x1
  | _ => false
noncomputable def hr_crop_pair (l : List At) : V := match l with
  | .r x0 :: .r x1 :: [] => (V.tup [(SStream.v (m_crop_pair x0 x1).1), (SStream.v (m_crop_pair x0 x1).2.1), (V.int .i64 (m_crop_pair x0 x1).2.2)])
  | _ => .undef
abbrev args_crop_pair : List T := [.data [.int .u8], .data []]
noncomputable def c_crop_pair {R : Type} : CallF R := callHook args_crop_pair hp_crop_pair hr_crop_pair
abbrev G_crop_pair : Prop := Good1 (R := V) Tryz.prog 51 c_crop_pair
noncomputable def hp_crop_Replace (l : List At) : Bool := match l with
  | .r x0 :: .r x1 :: .i x2 :: [] => pre_crop_Replace x0 x1 x2
  | _ => false
noncomputable def hr_crop_Replace (l : List At) : V := match l with
  | .r x0 :: .r x1 :: .i x2 :: [] => (V.tup [(V.data [.int .u8] (m_crop_Replace x0 x1 x2).1), (V.int .i64 (m_crop_Replace x0 x1 x2).2)])
  | _ => .undef
abbrev args_crop_Replace : List T := [.data [.int .u8], .data [], .int .i64]
noncomputable def c_crop_Replace {R : Type} : CallF R := callHook args_crop_Replace hp_crop_Replace hr_crop_Replace
abbrev G_crop_Replace : Prop := Good1 (R := V) Tryz.prog 24 c_crop_Replace
noncomputable def hp_crop_Join (l : List At) : Bool := match l with
  | .r x0 :: .r x1 :: [] => pre_crop_Join x0 x1
  | _ => false
noncomputable def hr_crop_Join (l : List At) : V := match l with
  | .r x0 :: .r x1 :: [] => (V.tup [(V.data [.int .u8] (m_crop_Join x0 x1).1), (V.int .i64 (m_crop_Join x0 x1).2)])
  | _ => .undef
abbrev args_crop_Join : List T := [.data [.int .u8], .data []]
noncomputable def c_crop_Join {R : Type} : CallF R := callHook args_crop_Join hp_crop_Join hr_crop_Join
abbrev G_crop_Join : Prop := Good1 (R := V) Tryz.prog 23 c_crop_Join
noncomputable def hp_rect_Valid (l : List At) : Bool := match l with
  | .i _ :: .i _ :: .i _ :: .i _ :: [] => true
  | _ => false
noncomputable def hr_rect_Valid (l : List At) : V := match l with
  | .i x0 :: .i x1 :: .i x2 :: .i x3 :: [] => (V.bool (m_rect_Valid (SRect.mk x0 x1 x2 x3)))
  | _ => .undef
abbrev args_rect_Valid : List T := [.agg SRect.ts]
noncomputable def c_rect_Valid {R : Type} : CallF R := callHook args_rect_Valid hp_rect_Valid hr_rect_Valid
abbrev G_rect_Valid : Prop := Good1 (R := V) Tryz.prog 26 c_rect_Valid
noncomputable def hp_rect_CeilDiv (l : List At) : Bool := match l with
  | .i _ :: .i _ :: [] => true
  | _ => false
noncomputable def hr_rect_CeilDiv (l : List At) : V := match l with
  | .i x0 :: .i x1 :: [] => (V.int .i64 (m_rect_CeilDiv x0 x1))
  | _ => .undef
abbrev args_rect_CeilDiv : List T := [.int .i64, .int .i64]
noncomputable def c_rect_CeilDiv {R : Type} : CallF R := callHook args_rect_CeilDiv hp_rect_CeilDiv hr_rect_CeilDiv
abbrev G_rect_CeilDiv : Prop := Good1 (R := V) Tryz.prog 41 c_rect_CeilDiv
noncomputable def hp_rect_Reduce (l : List At) : Bool := match l with
  | .i _ :: .i _ :: .i _ :: .i _ :: .i _ :: .i _ :: [] => true
  | _ => false
noncomputable def hr_rect_Reduce (l : List At) : V := match l with
  | .i x0 :: .i x1 :: .i x2 :: .i x3 :: .i x4 :: .i x5 :: [] => (SRect.v (m_rect_Reduce (SRect.mk x0 x1 x2 x3) x4 x5))
  | _ => .undef
abbrev args_rect_Reduce : List T := [.agg SRect.ts, .int .i64, .int .i64]
noncomputable def c_rect_Reduce {R : Type} : CallF R := callHook args_rect_Reduce hp_rect_Reduce hr_rect_Reduce
abbrev G_rect_Reduce : Prop := Good1 (R := V) Tryz.prog 16 c_rect_Reduce
noncomputable def hp_rect_Empty (l : List At) : Bool := match l with
  | .i _ :: .i _ :: .i _ :: .i _ :: [] => true
  | _ => false
noncomputable def hr_rect_Empty (l : List At) : V := match l with
  | .i x0 :: .i x1 :: .i x2 :: .i x3 :: [] => (V.bool (m_rect_Empty (SRect.mk x0 x1 x2 x3)))
  | _ => .undef
abbrev args_rect_Empty : List T := [.agg SRect.ts]
noncomputable def c_rect_Empty {R : Type} : CallF R := callHook args_rect_Empty hp_rect_Empty hr_rect_Empty
abbrev G_rect_Empty : Prop := Good1 (R := V) Tryz.prog 39 c_rect_Empty
noncomputable def hp_params_within (l : List At) : Bool := match l with
  | .i x0 :: .i x1 :: .r x2 :: [] => pre_params_within x0 x1 x2
  | _ => false
noncomputable def hr_params_within (l : List At) : V := match l with
  | .i x0 :: .i x1 :: .r x2 :: [] => (V.bool (m_params_within x0 x1 x2))
  | _ => .undef
abbrev args_params_within : List T := [.int .i64, .int .i64, .data Sheadseg_failure.sh]
noncomputable def c_params_within {R : Type} : CallF R := callHook args_params_within hp_params_within hr_params_within
abbrev G_params_within : Prop := Good1 (R := V) Tryz.prog 40 c_params_within
noncomputable def hp_rect_FloorDiv (l : List At) : Bool := match l with
  | .i _ :: .i _ :: [] => true
  | _ => false
noncomputable def hr_rect_FloorDiv (l : List At) : V := match l with
  | .i x0 :: .i x1 :: [] => (V.int .i64 (m_rect_FloorDiv x0 x1))
  | _ => .undef
abbrev args_rect_FloorDiv : List T := [.int .i64, .int .i64]
noncomputable def c_rect_FloorDiv {R : Type} : CallF R := callHook args_rect_FloorDiv hp_rect_FloorDiv hr_rect_FloorDiv
abbrev G_rect_FloorDiv : Prop := Good1 (R := V) Tryz.prog 42 c_rect_FloorDiv
noncomputable def hp_rect_Area (l : List At) : Bool := match l with
  | .i _ :: .i _ :: .i _ :: .i _ :: [] => true
  | _ => false
noncomputable def hr_rect_Area (l : List At) : V := match l with
  | .i x0 :: .i x1 :: .i x2 :: .i x3 :: [] => (V.int .i64 (m_rect_Area (SRect.mk x0 x1 x2 x3)))
  | _ => .undef
abbrev args_rect_Area : List T := [.agg SRect.ts]
noncomputable def c_rect_Area {R : Type} : CallF R := callHook args_rect_Area hp_rect_Area hr_rect_Area
abbrev G_rect_Area : Prop := Good1 (R := V) Tryz.prog 43 c_rect_Area
noncomputable def hp_params_Header (l : List At) : Bool := match l with
  | .i _ :: .i _ :: .i _ :: .i _ :: .i _ :: .i _ :: .r _ :: [] => true
  | _ => false
noncomputable def hr_params_Header (l : List At) : V := match l with
  | .i x0 :: .i x1 :: .i x2 :: .i x3 :: .i x4 :: .i x5 :: .r x6 :: [] => (V.int .i64 (m_params_Header (SHeader.mk (SRect.mk x0 x1 x2 x3) x4 x5 x6)))
  | _ => .undef
abbrev args_params_Header : List T := [.agg SHeader.ts]
noncomputable def c_params_Header {R : Type} : CallF R := callHook args_params_Header hp_params_Header hr_params_Header
abbrev G_params_Header : Prop := Good1 (R := V) Tryz.prog 14 c_params_Header
noncomputable def hp_rect_Intersect (l : List At) : Bool := match l with
  | .i _ :: .i _ :: .i _ :: .i _ :: .i _ :: .i _ :: .i _ :: .i _ :: [] => true
  | _ => false
noncomputable def hr_rect_Intersect (l : List At) : V := match l with
  | .i x0 :: .i x1 :: .i x2 :: .i x3 :: .i x4 :: .i x5 :: .i x6 :: .i x7 :: [] => (SRect.v (m_rect_Intersect (SRect.mk x0 x1 x2 x3) (SRect.mk x4 x5 x6 x7)))
  | _ => .undef
abbrev args_rect_Intersect : List T := [.agg SRect.ts, .agg SRect.ts]
noncomputable def c_rect_Intersect {R : Type} : CallF R := callHook args_rect_Intersect hp_rect_Intersect hr_rect_Intersect
abbrev G_rect_Intersect : Prop := Good1 (R := V) Tryz.prog 56 c_rect_Intersect
noncomputable def hp_rect_Cells (l : List At) : Bool := match l with
  | .i _ :: .i _ :: .i _ :: .i _ :: .i _ :: .i _ :: [] => true
  | _ => false
noncomputable def hr_rect_Cells (l : List At) : V := match l with
  | .i x0 :: .i x1 :: .i x2 :: .i x3 :: .i x4 :: .i x5 :: [] => (V.data SRect.sh (m_rect_Cells (SRect.mk x0 x1 x2 x3) x4 x5))
  | _ => .undef
abbrev args_rect_Cells : List T := [.agg SRect.ts, .int .i64, .int .i64]
noncomputable def c_rect_Cells {R : Type} : CallF R := callHook args_rect_Cells hp_rect_Cells hr_rect_Cells
abbrev G_rect_Cells : Prop := Good1 (R := V) Tryz.prog 73 c_rect_Cells
noncomputable def hp_layout_Tiles (l : List At) : Bool := match l with
  | .i _ :: .i _ :: .i _ :: .i _ :: .i _ :: .i _ :: .r _ :: [] => true
  | _ => false
noncomputable def hr_layout_Tiles (l : List At) : V := match l with
  | .i x0 :: .i x1 :: .i x2 :: .i x3 :: .i x4 :: .i x5 :: .r x6 :: [] => (V.data SRect.sh (m_layout_Tiles (SHeader.mk (SRect.mk x0 x1 x2 x3) x4 x5 x6)))
  | _ => .undef
abbrev args_layout_Tiles : List T := [.agg SHeader.ts]
noncomputable def c_layout_Tiles {R : Type} : CallF R := callHook args_layout_Tiles hp_layout_Tiles hr_layout_Tiles
abbrev G_layout_Tiles : Prop := Good1 (R := V) Tryz.prog 55 c_layout_Tiles
noncomputable def hp_crop_touched (l : List At) : Bool := match l with
  | .i _ :: .i _ :: .i _ :: .i _ :: .i _ :: .i _ :: .r _ :: .i _ :: .i _ :: .i _ :: .i _ :: [] => true
  | _ => false
noncomputable def hr_crop_touched (l : List At) : V := match l with
  | .i x0 :: .i x1 :: .i x2 :: .i x3 :: .i x4 :: .i x5 :: .r x6 :: .i x7 :: .i x8 :: .i x9 :: .i x10 :: [] => (V.data SRect.sh (m_crop_touched (SHeader.mk (SRect.mk x0 x1 x2 x3) x4 x5 x6) (SRect.mk x7 x8 x9 x10)))
  | _ => .undef
abbrev args_crop_touched : List T := [.agg SHeader.ts, .agg SRect.ts]
noncomputable def c_crop_touched {R : Type} : CallF R := callHook args_crop_touched hp_crop_touched hr_crop_touched
abbrev G_crop_touched : Prop := Good1 (R := V) Tryz.prog 25 c_crop_touched
noncomputable def hp_rect_Bound (l : List At) : Bool := match l with
  | .r x0 :: [] => pre_rect_Bound x0
  | _ => false
noncomputable def hr_rect_Bound (l : List At) : V := match l with
  | .r x0 :: [] => (SRect.v (m_rect_Bound x0))
  | _ => .undef
abbrev args_rect_Bound : List T := [.data SRect.sh]
noncomputable def c_rect_Bound {R : Type} : CallF R := callHook args_rect_Bound hp_rect_Bound hr_rect_Bound
abbrev G_rect_Bound : Prop := Good1 (R := V) Tryz.prog 27 c_rect_Bound
noncomputable def hp_crop_Area (l : List At) : Bool := match l with
  | .i x0 :: .i x1 :: .i x2 :: .i x3 :: .i x4 :: .i x5 :: .r x6 :: .i x7 :: .i x8 :: .i x9 :: .i x10 :: [] => pre_crop_Area (SHeader.mk (SRect.mk x0 x1 x2 x3) x4 x5 x6) (SRect.mk x7 x8 x9 x10)
  | _ => false
noncomputable def hr_crop_Area (l : List At) : V := match l with
  | .i x0 :: .i x1 :: .i x2 :: .i x3 :: .i x4 :: .i x5 :: .r x6 :: .i x7 :: .i x8 :: .i x9 :: .i x10 :: [] => (V.tup [(SRect.v (m_crop_Area (SHeader.mk (SRect.mk x0 x1 x2 x3) x4 x5 x6) (SRect.mk x7 x8 x9 x10)).1), (V.int .i64 (m_crop_Area (SHeader.mk (SRect.mk x0 x1 x2 x3) x4 x5 x6) (SRect.mk x7 x8 x9 x10)).2)])
  | _ => .undef
abbrev args_crop_Area : List T := [.agg SHeader.ts, .agg SRect.ts]
noncomputable def c_crop_Area {R : Type} : CallF R := callHook args_crop_Area hp_crop_Area hr_crop_Area
abbrev G_crop_Area : Prop := Good1 (R := V) Tryz.prog 10 c_crop_Area
noncomputable def hp_L44_exampleHolds (l : List At) : Bool := match l with
  | [] => true
  | _ => false
noncomputable def hr_L44_exampleHolds (l : List At) : V := match l with
  | [] => (V.bool m_L44_exampleHolds)
  | _ => .undef
abbrev args_L44_exampleHolds : List T := []
noncomputable def c_L44_exampleHolds {R : Type} : CallF R := callHook args_L44_exampleHolds hp_L44_exampleHolds hr_L44_exampleHolds
abbrev G_L44_exampleHolds : Prop := Good1 (R := V) Tryz.prog 9 c_L44_exampleHolds
noncomputable def hp_R01_Valid (l : List At) : Bool := match l with
  | .i _ :: .i _ :: .i _ :: .i _ :: [] => true
  | _ => false
noncomputable def hr_R01_Valid (l : List At) : V := match l with
  | .i x0 :: .i x1 :: .i x2 :: .i x3 :: [] => (V.bool (m_R01_Valid (SRect.mk x0 x1 x2 x3)))
  | _ => .undef
abbrev args_R01_Valid : List T := [.agg SRect.ts]
noncomputable def c_R01_Valid {R : Type} : CallF R := callHook args_R01_Valid hp_R01_Valid hr_R01_Valid
abbrev G_R01_Valid : Prop := Good1 (R := V) Tryz.prog 28 c_R01_Valid
noncomputable def hp_R01_CeilDiv (l : List At) : Bool := match l with
  | .i _ :: .i _ :: [] => true
  | _ => false
noncomputable def hr_R01_CeilDiv (l : List At) : V := match l with
  | .i x0 :: .i x1 :: [] => (V.int .i64 (m_R01_CeilDiv x0 x1))
  | _ => .undef
abbrev args_R01_CeilDiv : List T := [.int .i64, .int .i64]
noncomputable def c_R01_CeilDiv {R : Type} : CallF R := callHook args_R01_CeilDiv hp_R01_CeilDiv hr_R01_CeilDiv
abbrev G_R01_CeilDiv : Prop := Good1 (R := V) Tryz.prog 50 c_R01_CeilDiv
noncomputable def hp_R01_Reduce (l : List At) : Bool := match l with
  | .i _ :: .i _ :: .i _ :: .i _ :: .i _ :: .i _ :: [] => true
  | _ => false
noncomputable def hr_R01_Reduce (l : List At) : V := match l with
  | .i x0 :: .i x1 :: .i x2 :: .i x3 :: .i x4 :: .i x5 :: [] => (SRect.v (m_R01_Reduce (SRect.mk x0 x1 x2 x3) x4 x5))
  | _ => .undef
abbrev args_R01_Reduce : List T := [.agg SRect.ts, .int .i64, .int .i64]
noncomputable def c_R01_Reduce {R : Type} : CallF R := callHook args_R01_Reduce hp_R01_Reduce hr_R01_Reduce
abbrev G_R01_Reduce : Prop := Good1 (R := V) Tryz.prog 20 c_R01_Reduce
noncomputable def hp_R01_Empty (l : List At) : Bool := match l with
  | .i _ :: .i _ :: .i _ :: .i _ :: [] => true
  | _ => false
noncomputable def hr_R01_Empty (l : List At) : V := match l with
  | .i x0 :: .i x1 :: .i x2 :: .i x3 :: [] => (V.bool (m_R01_Empty (SRect.mk x0 x1 x2 x3)))
  | _ => .undef
abbrev args_R01_Empty : List T := [.agg SRect.ts]
noncomputable def c_R01_Empty {R : Type} : CallF R := callHook args_R01_Empty hp_R01_Empty hr_R01_Empty
abbrev G_R01_Empty : Prop := Good1 (R := V) Tryz.prog 29 c_R01_Empty
noncomputable def hp_R23_in (l : List At) : Bool := match l with
  | .i _ :: .i _ :: .i _ :: [] => true
  | _ => false
noncomputable def hr_R23_in (l : List At) : V := match l with
  | .i x0 :: .i x1 :: .i x2 :: [] => (V.bool (m_R23_in x0 x1 x2))
  | _ => .undef
abbrev args_R23_in : List T := [.int .i64, .int .i64, .int .i64]
noncomputable def c_R23_in {R : Type} : CallF R := callHook args_R23_in hp_R23_in hr_R23_in
abbrev G_R23_in : Prop := Good1 (R := V) Tryz.prog 47 c_R23_in
noncomputable def hp_R01_FloorDiv (l : List At) : Bool := match l with
  | .i _ :: .i _ :: [] => true
  | _ => false
noncomputable def hr_R01_FloorDiv (l : List At) : V := match l with
  | .i x0 :: .i x1 :: [] => (V.int .i64 (m_R01_FloorDiv x0 x1))
  | _ => .undef
abbrev args_R01_FloorDiv : List T := [.int .i64, .int .i64]
noncomputable def c_R01_FloorDiv {R : Type} : CallF R := callHook args_R01_FloorDiv hp_R01_FloorDiv hr_R01_FloorDiv
abbrev G_R01_FloorDiv : Prop := Good1 (R := V) Tryz.prog 71 c_R01_FloorDiv
noncomputable def hp_R23_tiles (l : List At) : Bool := match l with
  | .i _ :: .i _ :: .i _ :: .i _ :: .i _ :: .i _ :: .r _ :: [] => true
  | _ => false
noncomputable def hr_R23_tiles (l : List At) : V := match l with
  | .i x0 :: .i x1 :: .i x2 :: .i x3 :: .i x4 :: .i x5 :: .r x6 :: [] => (V.int .i64 (m_R23_tiles (SHeader.mk (SRect.mk x0 x1 x2 x3) x4 x5 x6)))
  | _ => .undef
abbrev args_R23_tiles : List T := [.agg SHeader.ts]
noncomputable def c_R23_tiles {R : Type} : CallF R := callHook args_R23_tiles hp_R23_tiles hr_R23_tiles
abbrev G_R23_tiles : Prop := Good1 (R := V) Tryz.prog 48 c_R23_tiles
noncomputable def hp_R01_Area (l : List At) : Bool := match l with
  | .i _ :: .i _ :: .i _ :: .i _ :: [] => true
  | _ => false
noncomputable def hr_R01_Area (l : List At) : V := match l with
  | .i x0 :: .i x1 :: .i x2 :: .i x3 :: [] => (V.int .i64 (m_R01_Area (SRect.mk x0 x1 x2 x3)))
  | _ => .undef
abbrev args_R01_Area : List T := [.agg SRect.ts]
noncomputable def c_R01_Area {R : Type} : CallF R := callHook args_R01_Area hp_R01_Area hr_R01_Area
abbrev G_R01_Area : Prop := Good1 (R := V) Tryz.prog 49 c_R01_Area
noncomputable def hp_R23_Header (l : List At) : Bool := match l with
  | .i _ :: .i _ :: .i _ :: .i _ :: .i _ :: .i _ :: .r _ :: [] => true
  | _ => false
noncomputable def hr_R23_Header (l : List At) : V := match l with
  | .i x0 :: .i x1 :: .i x2 :: .i x3 :: .i x4 :: .i x5 :: .r x6 :: [] => (V.int .i64 (m_R23_Header (SHeader.mk (SRect.mk x0 x1 x2 x3) x4 x5 x6)))
  | _ => .undef
abbrev args_R23_Header : List T := [.agg SHeader.ts]
noncomputable def c_R23_Header {R : Type} : CallF R := callHook args_R23_Header hp_R23_Header hr_R23_Header
abbrev G_R23_Header : Prop := Good1 (R := V) Tryz.prog 17 c_R23_Header
noncomputable def hp_R01_Intersect (l : List At) : Bool := match l with
  | .i _ :: .i _ :: .i _ :: .i _ :: .i _ :: .i _ :: .i _ :: .i _ :: [] => true
  | _ => false
noncomputable def hr_R01_Intersect (l : List At) : V := match l with
  | .i x0 :: .i x1 :: .i x2 :: .i x3 :: .i x4 :: .i x5 :: .i x6 :: .i x7 :: [] => (SRect.v (m_R01_Intersect (SRect.mk x0 x1 x2 x3) (SRect.mk x4 x5 x6 x7)))
  | _ => .undef
abbrev args_R01_Intersect : List T := [.agg SRect.ts, .agg SRect.ts]
noncomputable def c_R01_Intersect {R : Type} : CallF R := callHook args_R01_Intersect hp_R01_Intersect hr_R01_Intersect
abbrev G_R01_Intersect : Prop := Good1 (R := V) Tryz.prog 30 c_R01_Intersect
noncomputable def hp_R01_Cells (l : List At) : Bool := match l with
  | .i _ :: .i _ :: .i _ :: .i _ :: .i _ :: .i _ :: [] => true
  | _ => false
noncomputable def hr_R01_Cells (l : List At) : V := match l with
  | .i x0 :: .i x1 :: .i x2 :: .i x3 :: .i x4 :: .i x5 :: [] => (V.data SRect.sh (m_R01_Cells (SRect.mk x0 x1 x2 x3) x4 x5))
  | _ => .undef
abbrev args_R01_Cells : List T := [.agg SRect.ts, .int .i64, .int .i64]
noncomputable def c_R01_Cells {R : Type} : CallF R := callHook args_R01_Cells hp_R01_Cells hr_R01_Cells
abbrev G_R01_Cells : Prop := Good1 (R := V) Tryz.prog 57 c_R01_Cells
noncomputable def hp_R24_Tiles (l : List At) : Bool := match l with
  | .i _ :: .i _ :: .i _ :: .i _ :: .i _ :: .i _ :: .r _ :: [] => true
  | _ => false
noncomputable def hr_R24_Tiles (l : List At) : V := match l with
  | .i x0 :: .i x1 :: .i x2 :: .i x3 :: .i x4 :: .i x5 :: .r x6 :: [] => (V.data SRect.sh (m_R24_Tiles (SHeader.mk (SRect.mk x0 x1 x2 x3) x4 x5 x6)))
  | _ => .undef
abbrev args_R24_Tiles : List T := [.agg SHeader.ts]
noncomputable def c_R24_Tiles {R : Type} : CallF R := callHook args_R24_Tiles hp_R24_Tiles hr_R24_Tiles
abbrev G_R24_Tiles : Prop := Good1 (R := V) Tryz.prog 31 c_R24_Tiles
noncomputable def hp_R01_Bound (l : List At) : Bool := match l with
  | .r x0 :: [] => pre_R01_Bound x0
  | _ => false
noncomputable def hr_R01_Bound (l : List At) : V := match l with
  | .r x0 :: [] => (SRect.v (m_R01_Bound x0))
  | _ => .undef
abbrev args_R01_Bound : List T := [.data SRect.sh]
noncomputable def c_R01_Bound {R : Type} : CallF R := callHook args_R01_Bound hp_R01_Bound hr_R01_Bound
abbrev G_R01_Bound : Prop := Good1 (R := V) Tryz.prog 32 c_R01_Bound
noncomputable def hp_R44_Area (l : List At) : Bool := match l with
  | .i _ :: .i _ :: .i _ :: .i _ :: .i _ :: .i _ :: .r _ :: .i _ :: .i _ :: .i _ :: .i _ :: [] => true
  | _ => false
noncomputable def hr_R44_Area (l : List At) : V := match l with
  | .i x0 :: .i x1 :: .i x2 :: .i x3 :: .i x4 :: .i x5 :: .r x6 :: .i x7 :: .i x8 :: .i x9 :: .i x10 :: [] => (V.tup [(SRect.v (m_R44_Area (SHeader.mk (SRect.mk x0 x1 x2 x3) x4 x5 x6) (SRect.mk x7 x8 x9 x10)).1), (V.int .i64 (m_R44_Area (SHeader.mk (SRect.mk x0 x1 x2 x3) x4 x5 x6) (SRect.mk x7 x8 x9 x10)).2)])
  | _ => .undef
abbrev args_R44_Area : List T := [.agg SHeader.ts, .agg SRect.ts]
noncomputable def c_R44_Area {R : Type} : CallF R := callHook args_R44_Area hp_R44_Area hr_R44_Area
abbrev G_R44_Area : Prop := Good1 (R := V) Tryz.prog 11 c_R44_Area
noncomputable def hp_L44_CropAreas (l : List At) : Bool := match l with
  | .i _ :: .i _ :: .i _ :: .i _ :: .i _ :: .i _ :: .r _ :: .i _ :: .i _ :: .i _ :: .i _ :: [] => true
  | _ => false
noncomputable def hr_L44_CropAreas (l : List At) : V := match l with
  | .i x0 :: .i x1 :: .i x2 :: .i x3 :: .i x4 :: .i x5 :: .r x6 :: .i x7 :: .i x8 :: .i x9 :: .i x10 :: [] => (V.bool (m_L44_CropAreas (SHeader.mk (SRect.mk x0 x1 x2 x3) x4 x5 x6) (SRect.mk x7 x8 x9 x10)))
  | _ => .undef
abbrev args_L44_CropAreas : List T := [.agg SHeader.ts, .agg SRect.ts]
noncomputable def c_L44_CropAreas {R : Type} : CallF R := callHook args_L44_CropAreas hp_L44_CropAreas hr_L44_CropAreas
abbrev G_L44_CropAreas : Prop := Good1 (R := V) Tryz.prog 4 c_L44_CropAreas
end Go.Vm
