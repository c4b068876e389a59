import Derived.Test.YtplgoojpbnobiaaGreatWT
set_option linter.unusedVariables false
set_option linter.unusedSimpArgs false
set_option maxRecDepth 100000
noncomputable section
namespace Go.Vm
open Go.Proofs
noncomputable def hp_marker_Known (l : List At) : Bool := match l with
  | .i _ :: [] => true
  | _ => false
noncomputable def hr_marker_Known (l : List At) : V := match l with
  | .i x0 :: [] => (V.bool (m_marker_Known x0))
  | _ => .undef
abbrev args_marker_Known : List T := [.int .i64]
noncomputable def c_marker_Known {R : Type} : CallF R := callHook args_marker_Known hp_marker_Known hr_marker_Known
abbrev G_marker_Known : Prop := Good1 (R := V) Tryz.prog 88 c_marker_Known
noncomputable def hp_marker_ReadUint (l : List At) : Bool := match l with
  | .r x0 :: .i x1 :: .i x2 :: [] => pre_marker_ReadUint x0 x1 x2
  | _ => false
noncomputable def hr_marker_ReadUint (l : List At) : V := match l with
  | .r x0 :: .i x1 :: .i x2 :: [] => (V.tup [(V.int .i64 (m_marker_ReadUint x0 x1 x2).1), (V.int .i64 (m_marker_ReadUint x0 x1 x2).2)])
  | _ => .undef
abbrev args_marker_ReadUint : List T := [.data [.int .u8], .int .i64, .int .i64]
noncomputable def c_marker_ReadUint {R : Type} : CallF R := callHook args_marker_ReadUint hp_marker_ReadUint hr_marker_ReadUint
abbrev G_marker_ReadUint : Prop := Good1 (R := V) Tryz.prog 87 c_marker_ReadUint
noncomputable def hp_marker_Read (l : List At) : Bool := match l with
  | .r x0 :: .i x1 :: [] => pre_marker_Read x0 x1
  | _ => false
noncomputable def hr_marker_Read (l : List At) : V := match l with
  | .r x0 :: .i x1 :: [] => (V.tup [(SSegment.v (m_marker_Read x0 x1).1), (V.int .i64 (m_marker_Read x0 x1).2.1), (V.int .i64 (m_marker_Read x0 x1).2.2)])
  | _ => .undef
abbrev args_marker_Read : List T := [.data [.int .u8], .int .i64]
noncomputable def c_marker_Read {R : Type} : CallF R := callHook args_marker_Read hp_marker_Read hr_marker_Read
abbrev G_marker_Read : Prop := Good1 (R := V) Tryz.prog 62 c_marker_Read
noncomputable def hp_stream_readMain (l : List At) : Bool := match l with
  | .r x0 :: [] => pre_stream_readMain x0
  | _ => false
noncomputable def hr_stream_readMain (l : List At) : V := match l with
  | .r x0 :: [] => (V.tup [(Sstream_head.v (m_stream_readMain x0).1), (V.int .i64 (m_stream_readMain x0).2)])
  | _ => .undef
abbrev args_stream_readMain : List T := [.data [.int .u8]]
noncomputable def c_stream_readMain {R : Type} : CallF R := callHook args_stream_readMain hp_stream_readMain hr_stream_readMain
abbrev G_stream_readMain : Prop := Good1 (R := V) Tryz.prog 58 c_stream_readMain
noncomputable def hp_stream_Parse (l : List At) : Bool := match l with
  | .r x0 :: [] => pre_stream_Parse x0
  | _ => false
noncomputable def hr_stream_Parse (l : List At) : V := match l with
  | .r x0 :: [] => (V.tup [(SStream.v (m_stream_Parse x0).1), (V.int .i64 (m_stream_Parse x0).2)])
  | _ => .undef
abbrev args_stream_Parse : List T := [.data [.int .u8]]
noncomputable def c_stream_Parse {R : Type} : CallF R := callHook args_stream_Parse hp_stream_Parse hr_stream_Parse
abbrev G_stream_Parse : Prop := Good1 (R := V) Tryz.prog 33 c_stream_Parse
noncomputable def hp_trim_Components (l : List At) : Bool := match l with
  | .r x0 :: .r x1 :: [] => pre_trim_Components x0 x1
  | _ => false
noncomputable def hr_trim_Components (l : List At) : V := match l with
  | .r x0 :: .r x1 :: [] => (V.tup [(V.data [.int .u8] (m_trim_Components x0 x1).1), (V.int .i64 (m_trim_Components x0 x1).2)])
  | _ => .undef
abbrev args_trim_Components : List T := [.data [], .data []]
noncomputable def c_trim_Components {R : Type} : CallF R := callHook args_trim_Components hp_trim_Components hr_trim_Components
abbrev G_trim_Components : Prop := Good1 (R := V) Tryz.prog 13 c_trim_Components
noncomputable def hp_trim_Layers (l : List At) : Bool := match l with
  | .r x0 :: .i x1 :: [] => pre_trim_Layers x0 x1
  | _ => false
noncomputable def hr_trim_Layers (l : List At) : V := match l with
  | .r x0 :: .i x1 :: [] => (V.tup [(V.data [.int .u8] (m_trim_Layers x0 x1).1), (V.int .i64 (m_trim_Layers x0 x1).2)])
  | _ => .undef
abbrev args_trim_Layers : List T := [.data [.int .u8], .int .i64]
noncomputable def c_trim_Layers {R : Type} : CallF R := callHook args_trim_Layers hp_trim_Layers hr_trim_Layers
abbrev G_trim_Layers : Prop := Good1 (R := V) Tryz.prog 12 c_trim_Layers
noncomputable def hp_rect_Valid (l : List At) : Bool := match l with
  | .i _ :: .i _ :: .i _ :: .i _ :: [] => true
  | _ => false
noncomputable def hr_rect_Valid (l : List At) : V := match l with
  | .i x0 :: .i x1 :: .i x2 :: .i x3 :: [] => (V.bool (m_rect_Valid (SRect.mk x0 x1 x2 x3)))
  | _ => .undef
abbrev args_rect_Valid : List T := [.agg SRect.ts]
noncomputable def c_rect_Valid {R : Type} : CallF R := callHook args_rect_Valid hp_rect_Valid hr_rect_Valid
abbrev G_rect_Valid : Prop := Good1 (R := V) Tryz.prog 26 c_rect_Valid
noncomputable def hp_rect_CeilDiv (l : List At) : Bool := match l with
  | .i _ :: .i _ :: [] => true
  | _ => false
noncomputable def hr_rect_CeilDiv (l : List At) : V := match l with
  | .i x0 :: .i x1 :: [] => (V.int .i64 (m_rect_CeilDiv x0 x1))
  | _ => .undef
abbrev args_rect_CeilDiv : List T := [.int .i64, .int .i64]
noncomputable def c_rect_CeilDiv {R : Type} : CallF R := callHook args_rect_CeilDiv hp_rect_CeilDiv hr_rect_CeilDiv
abbrev G_rect_CeilDiv : Prop := Good1 (R := V) Tryz.prog 41 c_rect_CeilDiv
noncomputable def hp_rect_Reduce (l : List At) : Bool := match l with
  | .i _ :: .i _ :: .i _ :: .i _ :: .i _ :: .i _ :: [] => true
  | _ => false
noncomputable def hr_rect_Reduce (l : List At) : V := match l with
  | .i x0 :: .i x1 :: .i x2 :: .i x3 :: .i x4 :: .i x5 :: [] => (SRect.v (m_rect_Reduce (SRect.mk x0 x1 x2 x3) x4 x5))
  | _ => .undef
abbrev args_rect_Reduce : List T := [.agg SRect.ts, .int .i64, .int .i64]
noncomputable def c_rect_Reduce {R : Type} : CallF R := callHook args_rect_Reduce hp_rect_Reduce hr_rect_Reduce
abbrev G_rect_Reduce : Prop := Good1 (R := V) Tryz.prog 16 c_rect_Reduce
noncomputable def hp_rect_Empty (l : List At) : Bool := match l with
  | .i _ :: .i _ :: .i _ :: .i _ :: [] => true
  | _ => false
noncomputable def hr_rect_Empty (l : List At) : V := match l with
  | .i x0 :: .i x1 :: .i x2 :: .i x3 :: [] => (V.bool (m_rect_Empty (SRect.mk x0 x1 x2 x3)))
  | _ => .undef
abbrev args_rect_Empty : List T := [.agg SRect.ts]
noncomputable def c_rect_Empty {R : Type} : CallF R := callHook args_rect_Empty hp_rect_Empty hr_rect_Empty
abbrev G_rect_Empty : Prop := Good1 (R := V) Tryz.prog 39 c_rect_Empty
noncomputable def hp_params_within (l : List At) : Bool := match l with
  | .i x0 :: .i x1 :: .r x2 :: [] => pre_params_within x0 x1 x2
  | _ => false
noncomputable def hr_params_within (l : List At) : V := match l with
  | .i x0 :: .i x1 :: .r x2 :: [] => (V.bool (m_params_within x0 x1 x2))
  | _ => .undef
abbrev args_params_within : List T := [.int .i64, .int .i64, .data Sheadseg_failure.sh]
noncomputable def c_params_within {R : Type} : CallF R := callHook args_params_within hp_params_within hr_params_within
abbrev G_params_within : Prop := Good1 (R := V) Tryz.prog 40 c_params_within
noncomputable def hp_rect_FloorDiv (l : List At) : Bool := match l with
  | .i _ :: .i _ :: [] => true
  | _ => false
noncomputable def hr_rect_FloorDiv (l : List At) : V := match l with
  | .i x0 :: .i x1 :: [] => (V.int .i64 (m_rect_FloorDiv x0 x1))
  | _ => .undef
abbrev args_rect_FloorDiv : List T := [.int .i64, .int .i64]
noncomputable def c_rect_FloorDiv {R : Type} : CallF R := callHook args_rect_FloorDiv hp_rect_FloorDiv hr_rect_FloorDiv
abbrev G_rect_FloorDiv : Prop := Good1 (R := V) Tryz.prog 42 c_rect_FloorDiv
noncomputable def hp_rect_Area (l : List At) : Bool := match l with
  | .i _ :: .i _ :: .i _ :: .i _ :: [] => true
  | _ => false
noncomputable def hr_rect_Area (l : List At) : V := match l with
  | .i x0 :: .i x1 :: .i x2 :: .i x3 :: [] => (V.int .i64 (m_rect_Area (SRect.mk x0 x1 x2 x3)))
  | _ => .undef
abbrev args_rect_Area : List T := [.agg SRect.ts]
noncomputable def c_rect_Area {R : Type} : CallF R := callHook args_rect_Area hp_rect_Area hr_rect_Area
abbrev G_rect_Area : Prop := Good1 (R := V) Tryz.prog 43 c_rect_Area
noncomputable def hp_params_Header (l : List At) : Bool := match l with
  | .i _ :: .i _ :: .i _ :: .i _ :: .i _ :: .i _ :: .r _ :: [] => true
  | _ => false
noncomputable def hr_params_Header (l : List At) : V := match l with
  | .i x0 :: .i x1 :: .i x2 :: .i x3 :: .i x4 :: .i x5 :: .r x6 :: [] => (V.int .i64 (m_params_Header (SHeader.mk (SRect.mk x0 x1 x2 x3) x4 x5 x6)))
  | _ => .undef
abbrev args_params_Header : List T := [.agg SHeader.ts]
noncomputable def c_params_Header {R : Type} : CallF R := callHook args_params_Header hp_params_Header hr_params_Header
abbrev G_params_Header : Prop := Good1 (R := V) Tryz.prog 14 c_params_Header
noncomputable def hp_R01_Valid (l : List At) : Bool := match l with
  | .i _ :: .i _ :: .i _ :: .i _ :: [] => true
  | _ => false
noncomputable def hr_R01_Valid (l : List At) : V := match l with
  | .i x0 :: .i x1 :: .i x2 :: .i x3 :: [] => (V.bool (m_R01_Valid (SRect.mk x0 x1 x2 x3)))
  | _ => .undef
abbrev args_R01_Valid : List T := [.agg SRect.ts]
noncomputable def c_R01_Valid {R : Type} : CallF R := callHook args_R01_Valid hp_R01_Valid hr_R01_Valid
abbrev G_R01_Valid : Prop := Good1 (R := V) Tryz.prog 28 c_R01_Valid
noncomputable def hp_R01_CeilDiv (l : List At) : Bool := match l with
  | .i _ :: .i _ :: [] => true
  | _ => false
noncomputable def hr_R01_CeilDiv (l : List At) : V := match l with
  | .i x0 :: .i x1 :: [] => (V.int .i64 (m_R01_CeilDiv x0 x1))
  | _ => .undef
abbrev args_R01_CeilDiv : List T := [.int .i64, .int .i64]
noncomputable def c_R01_CeilDiv {R : Type} : CallF R := callHook args_R01_CeilDiv hp_R01_CeilDiv hr_R01_CeilDiv
abbrev G_R01_CeilDiv : Prop := Good1 (R := V) Tryz.prog 50 c_R01_CeilDiv
noncomputable def hp_R01_Reduce (l : List At) : Bool := match l with
  | .i _ :: .i _ :: .i _ :: .i _ :: .i _ :: .i _ :: [] => true
  | _ => false
noncomputable def hr_R01_Reduce (l : List At) : V := match l with
  | .i x0 :: .i x1 :: .i x2 :: .i x3 :: .i x4 :: .i x5 :: [] => (SRect.v (m_R01_Reduce (SRect.mk x0 x1 x2 x3) x4 x5))
  | _ => .undef
abbrev args_R01_Reduce : List T := [.agg SRect.ts, .int .i64, .int .i64]
noncomputable def c_R01_Reduce {R : Type} : CallF R := callHook args_R01_Reduce hp_R01_Reduce hr_R01_Reduce
abbrev G_R01_Reduce : Prop := Good1 (R := V) Tryz.prog 20 c_R01_Reduce
noncomputable def hp_R01_Empty (l : List At) : Bool := match l with
  | .i _ :: .i _ :: .i _ :: .i _ :: [] => true
  | _ => false
noncomputable def hr_R01_Empty (l : List At) : V := match l with
  | .i x0 :: .i x1 :: .i x2 :: .i x3 :: [] => (V.bool (m_R01_Empty (SRect.mk x0 x1 x2 x3)))
  | _ => .undef
abbrev args_R01_Empty : List T := [.agg SRect.ts]
noncomputable def c_R01_Empty {R : Type} : CallF R := callHook args_R01_Empty hp_R01_Empty hr_R01_Empty
abbrev G_R01_Empty : Prop := Good1 (R := V) Tryz.prog 29 c_R01_Empty
noncomputable def hp_R23_in (l : List At) : Bool := match l with
  | .i _ :: .i _ :: .i _ :: [] => true
  | _ => false
noncomputable def hr_R23_in (l : List At) : V := match l with
  | .i x0 :: .i x1 :: .i x2 :: [] => (V.bool (m_R23_in x0 x1 x2))
  | _ => .undef
abbrev args_R23_in : List T := [.int .i64, .int .i64, .int .i64]
noncomputable def c_R23_in {R : Type} : CallF R := callHook args_R23_in hp_R23_in hr_R23_in
abbrev G_R23_in : Prop := Good1 (R := V) Tryz.prog 47 c_R23_in
noncomputable def hp_R01_FloorDiv (l : List At) : Bool := match l with
  | .i _ :: .i _ :: [] => true
  | _ => false
noncomputable def hr_R01_FloorDiv (l : List At) : V := match l with
  | .i x0 :: .i x1 :: [] => (V.int .i64 (m_R01_FloorDiv x0 x1))
  | _ => .undef
abbrev args_R01_FloorDiv : List T := [.int .i64, .int .i64]
noncomputable def c_R01_FloorDiv {R : Type} : CallF R := callHook args_R01_FloorDiv hp_R01_FloorDiv hr_R01_FloorDiv
abbrev G_R01_FloorDiv : Prop := Good1 (R := V) Tryz.prog 71 c_R01_FloorDiv
noncomputable def hp_R23_tiles (l : List At) : Bool := match l with
  | .i _ :: .i _ :: .i _ :: .i _ :: .i _ :: .i _ :: .r _ :: [] => true
  | _ => false
noncomputable def hr_R23_tiles (l : List At) : V := match l with
  | .i x0 :: .i x1 :: .i x2 :: .i x3 :: .i x4 :: .i x5 :: .r x6 :: [] => (V.int .i64 (m_R23_tiles (SHeader.mk (SRect.mk x0 x1 x2 x3) x4 x5 x6)))
  | _ => .undef
abbrev args_R23_tiles : List T := [.agg SHeader.ts]
noncomputable def c_R23_tiles {R : Type} : CallF R := callHook args_R23_tiles hp_R23_tiles hr_R23_tiles
abbrev G_R23_tiles : Prop := Good1 (R := V) Tryz.prog 48 c_R23_tiles
noncomputable def hp_R01_Area (l : List At) : Bool := match l with
  | .i _ :: .i _ :: .i _ :: .i _ :: [] => true
  | _ => false
noncomputable def hr_R01_Area (l : List At) : V := match l with
  | .i x0 :: .i x1 :: .i x2 :: .i x3 :: [] => (V.int .i64 (m_R01_Area (SRect.mk x0 x1 x2 x3)))
  | _ => .undef
abbrev args_R01_Area : List T := [.agg SRect.ts]
noncomputable def c_R01_Area {R : Type} : CallF R := callHook args_R01_Area hp_R01_Area hr_R01_Area
abbrev G_R01_Area : Prop := Good1 (R := V) Tryz.prog 49 c_R01_Area
noncomputable def hp_R23_Header (l : List At) : Bool := match l with
  | .i _ :: .i _ :: .i _ :: .i _ :: .i _ :: .i _ :: .r _ :: [] => true
  | _ => false
noncomputable def hr_R23_Header (l : List At) : V := match l with
  | .i x0 :: .i x1 :: .i x2 :: .i x3 :: .i x4 :: .i x5 :: .r x6 :: [] => (V.int .i64 (m_R23_Header (SHeader.mk (SRect.mk x0 x1 x2 x3) x4 x5 x6)))
  | _ => .undef
abbrev args_R23_Header : List T := [.agg SHeader.ts]
noncomputable def c_R23_Header {R : Type} : CallF R := callHook args_R23_Header hp_R23_Header hr_R23_Header
abbrev G_R23_Header : Prop := Good1 (R := V) Tryz.prog 17 c_R23_Header
noncomputable def hp_slices_Clone_api_Component_api_Component (l : List At) : Bool := match l with
  | .r x0 :: [] => pre_slices_Clone_api_Component_api_Component x0
  | _ => false
noncomputable def hr_slices_Clone_api_Component_api_Component (l : List At) : V := match l with
  | .r x0 :: [] => (V.data SComponent.sh (m_slices_Clone_api_Component_api_Component x0))
  | _ => .undef
abbrev args_slices_Clone_api_Component_api_Component : List T := [.data SComponent.sh]
noncomputable def c_slices_Clone_api_Component_api_Component {R : Type} : CallF R := callHook args_slices_Clone_api_Component_api_Component hp_slices_Clone_api_Component_api_Component hr_slices_Clone_api_Component_api_Component
abbrev G_slices_Clone_api_Component_api_Component : Prop := Good1 (R := V) Tryz.prog 44 c_slices_Clone_api_Component_api_Component
noncomputable def hp_slices_Clone_api_Point_api_Point (l : List At) : Bool := match l with
  | .r x0 :: [] => pre_slices_Clone_api_Point_api_Point x0
  | _ => false
noncomputable def hr_slices_Clone_api_Point_api_Point (l : List At) : V := match l with
  | .r x0 :: [] => (V.data SPoint.sh (m_slices_Clone_api_Point_api_Point x0))
  | _ => .undef
abbrev args_slices_Clone_api_Point_api_Point : List T := [.data SPoint.sh]
noncomputable def c_slices_Clone_api_Point_api_Point {R : Type} : CallF R := callHook args_slices_Clone_api_Point_api_Point hp_slices_Clone_api_Point_api_Point hr_slices_Clone_api_Point_api_Point
abbrev G_slices_Clone_api_Point_api_Point : Prop := Good1 (R := V) Tryz.prog 45 c_slices_Clone_api_Point_api_Point
noncomputable def hp_slices_Clone_int_int (l : List At) : Bool := match l with
  | .r x0 :: [] => pre_slices_Clone_int_int x0
  | _ => false
noncomputable def hr_slices_Clone_int_int (l : List At) : V := match l with
  | .r x0 :: [] => (V.data Sheadseg_failure.sh (m_slices_Clone_int_int x0))
  | _ => .undef
abbrev args_slices_Clone_int_int : List T := [.data Sheadseg_failure.sh]
noncomputable def c_slices_Clone_int_int {R : Type} : CallF R := callHook args_slices_Clone_int_int hp_slices_Clone_int_int hr_slices_Clone_int_int
abbrev G_slices_Clone_int_int : Prop := Good1 (R := V) Tryz.prog 46 c_slices_Clone_int_int
noncomputable def hp_params_Clone (l : List At) : Bool := match l with
  | .i x0 :: .i x1 :: .i x2 :: .i x3 :: .i x4 :: .i x5 :: .r x6 :: .i x7 :: .i x8 :: .i x9 :: .i x10 :: .i x11 :: .r x12 :: .i x13 :: .i x14 :: .b x15 :: .b x16 :: .b x17 :: .b x18 :: .b x19 :: .b x20 :: .b x21 :: .b x22 :: .r x23 :: .i x24 :: .i x25 :: [] => pre_params_Clone (SHeader.mk (SRect.mk x0 x1 x2 x3) x4 x5 x6) (SParams.mk x7 x8 x9 x10 x11 x12 x13 x14 (SMode.mk x15 x16 x17 x18 x19) x20 x21 x22 x23 x24 x25)
  | _ => false
noncomputable def hr_params_Clone (l : List At) : V := match l with
  | .i x0 :: .i x1 :: .i x2 :: .i x3 :: .i x4 :: .i x5 :: .r x6 :: .i x7 :: .i x8 :: .i x9 :: .i x10 :: .i x11 :: .r x12 :: .i x13 :: .i x14 :: .b x15 :: .b x16 :: .b x17 :: .b x18 :: .b x19 :: .b x20 :: .b x21 :: .b x22 :: .r x23 :: .i x24 :: .i x25 :: [] => (V.tup [(SHeader.v (m_params_Clone (SHeader.mk (SRect.mk x0 x1 x2 x3) x4 x5 x6) (SParams.mk x7 x8 x9 x10 x11 x12 x13 x14 (SMode.mk x15 x16 x17 x18 x19) x20 x21 x22 x23 x24 x25)).1), (SParams.v (m_params_Clone (SHeader.mk (SRect.mk x0 x1 x2 x3) x4 x5 x6) (SParams.mk x7 x8 x9 x10 x11 x12 x13 x14 (SMode.mk x15 x16 x17 x18 x19) x20 x21 x22 x23 x24 x25)).2)])
  | _ => .undef
abbrev args_params_Clone : List T := [.agg SHeader.ts, .agg SParams.ts]
noncomputable def c_params_Clone {R : Type} : CallF R := callHook args_params_Clone hp_params_Clone hr_params_Clone
abbrev G_params_Clone : Prop := Good1 (R := V) Tryz.prog 15 c_params_Clone
noncomputable def hp_trim_Header (l : List At) : Bool := match l with
  | .i x0 :: .i x1 :: .i x2 :: .i x3 :: .i x4 :: .i x5 :: .r x6 :: .i x7 :: [] => pre_trim_Header (SHeader.mk (SRect.mk x0 x1 x2 x3) x4 x5 x6) x7
  | _ => false
noncomputable def hr_trim_Header (l : List At) : V := match l with
  | .i x0 :: .i x1 :: .i x2 :: .i x3 :: .i x4 :: .i x5 :: .r x6 :: .i x7 :: [] => (V.tup [(SHeader.v (m_trim_Header (SHeader.mk (SRect.mk x0 x1 x2 x3) x4 x5 x6) x7).1), (V.int .i64 (m_trim_Header (SHeader.mk (SRect.mk x0 x1 x2 x3) x4 x5 x6) x7).2)])
  | _ => .undef
abbrev args_trim_Header : List T := [.agg SHeader.ts, .int .i64]
noncomputable def c_trim_Header {R : Type} : CallF R := callHook args_trim_Header hp_trim_Header hr_trim_Header
abbrev G_trim_Header : Prop := Good1 (R := V) Tryz.prog 6 c_trim_Header
noncomputable def hp_L43_exampleHolds (l : List At) : Bool := match l with
  | [] => true
  | _ => false
noncomputable def hr_L43_exampleHolds (l : List At) : V := match l with
  | [] => (V.bool m_L43_exampleHolds)
  | _ => .undef
abbrev args_L43_exampleHolds : List T := []
noncomputable def c_L43_exampleHolds {R : Type} : CallF R := callHook args_L43_exampleHolds hp_L43_exampleHolds hr_L43_exampleHolds
abbrev G_L43_exampleHolds : Prop := Good1 (R := V) Tryz.prog 5 c_L43_exampleHolds
noncomputable def hp_R43_scale (l : List At) : Bool := match l with
  | .i x0 :: [] => pre_R43_scale x0
  | _ => false
noncomputable def hr_R43_scale (l : List At) : V := match l with
  | .i x0 :: [] => (V.int .i64 (m_R43_scale x0))
  | _ => .undef
abbrev args_R43_scale : List T := [.int .i64]
noncomputable def c_R43_scale {R : Type} : CallF R := callHook args_R43_scale hp_R43_scale hr_R43_scale
abbrev G_R43_scale : Prop := Good1 (R := V) Tryz.prog 18 c_R43_scale
noncomputable def hp_R23_Clone (l : List At) : Bool := match l with
  | .i x0 :: .i x1 :: .i x2 :: .i x3 :: .i x4 :: .i x5 :: .r x6 :: .i x7 :: .i x8 :: .i x9 :: .i x10 :: .i x11 :: .r x12 :: .i x13 :: .i x14 :: .b x15 :: .b x16 :: .b x17 :: .b x18 :: .b x19 :: .b x20 :: .b x21 :: .b x22 :: .r x23 :: .i x24 :: .i x25 :: [] => pre_R23_Clone (SHeader.mk (SRect.mk x0 x1 x2 x3) x4 x5 x6) (SParams.mk x7 x8 x9 x10 x11 x12 x13 x14 (SMode.mk x15 x16 x17 x18 x19) x20 x21 x22 x23 x24 x25)
  | _ => false
noncomputable def hr_R23_Clone (l : List At) : V := match l with
  | .i x0 :: .i x1 :: .i x2 :: .i x3 :: .i x4 :: .i x5 :: .r x6 :: .i x7 :: .i x8 :: .i x9 :: .i x10 :: .i x11 :: .r x12 :: .i x13 :: .i x14 :: .b x15 :: .b x16 :: .b x17 :: .b x18 :: .b x19 :: .b x20 :: .b x21 :: .b x22 :: .r x23 :: .i x24 :: .i x25 :: [] => (V.tup [(SHeader.v (m_R23_Clone (SHeader.mk (SRect.mk x0 x1 x2 x3) x4 x5 x6) (SParams.mk x7 x8 x9 x10 x11 x12 x13 x14 (SMode.mk x15 x16 x17 x18 x19) x20 x21 x22 x23 x24 x25)).1), (SParams.v (m_R23_Clone (SHeader.mk (SRect.mk x0 x1 x2 x3) x4 x5 x6) (SParams.mk x7 x8 x9 x10 x11 x12 x13 x14 (SMode.mk x15 x16 x17 x18 x19) x20 x21 x22 x23 x24 x25)).2)])
  | _ => .undef
abbrev args_R23_Clone : List T := [.agg SHeader.ts, .agg SParams.ts]
noncomputable def c_R23_Clone {R : Type} : CallF R := callHook args_R23_Clone hp_R23_Clone hr_R23_Clone
abbrev G_R23_Clone : Prop := Good1 (R := V) Tryz.prog 19 c_R23_Clone
noncomputable def hp_R43_Header (l : List At) : Bool := match l with
  | .i x0 :: .i x1 :: .i x2 :: .i x3 :: .i x4 :: .i x5 :: .r x6 :: .i x7 :: [] => pre_R43_Header (SHeader.mk (SRect.mk x0 x1 x2 x3) x4 x5 x6) x7
  | _ => false
noncomputable def hr_R43_Header (l : List At) : V := match l with
  | .i x0 :: .i x1 :: .i x2 :: .i x3 :: .i x4 :: .i x5 :: .r x6 :: .i x7 :: [] => (V.tup [(SHeader.v (m_R43_Header (SHeader.mk (SRect.mk x0 x1 x2 x3) x4 x5 x6) x7).1), (V.int .i64 (m_R43_Header (SHeader.mk (SRect.mk x0 x1 x2 x3) x4 x5 x6) x7).2)])
  | _ => .undef
abbrev args_R43_Header : List T := [.agg SHeader.ts, .int .i64]
noncomputable def c_R43_Header {R : Type} : CallF R := callHook args_R43_Header hp_R43_Header hr_R43_Header
abbrev G_R43_Header : Prop := Good1 (R := V) Tryz.prog 7 c_R43_Header
noncomputable def hp_R23_SameHeader (l : List At) : Bool := match l with
  | .i x0 :: .i x1 :: .i x2 :: .i x3 :: .i x4 :: .i x5 :: .r x6 :: .i x7 :: .i x8 :: .i x9 :: .i x10 :: .i x11 :: .i x12 :: .r x13 :: [] => pre_R23_SameHeader (SHeader.mk (SRect.mk x0 x1 x2 x3) x4 x5 x6) (SHeader.mk (SRect.mk x7 x8 x9 x10) x11 x12 x13)
  | _ => false
noncomputable def hr_R23_SameHeader (l : List At) : V := match l with
  | .i x0 :: .i x1 :: .i x2 :: .i x3 :: .i x4 :: .i x5 :: .r x6 :: .i x7 :: .i x8 :: .i x9 :: .i x10 :: .i x11 :: .i x12 :: .r x13 :: [] => (V.bool (m_R23_SameHeader (SHeader.mk (SRect.mk x0 x1 x2 x3) x4 x5 x6) (SHeader.mk (SRect.mk x7 x8 x9 x10) x11 x12 x13)))
  | _ => .undef
abbrev args_R23_SameHeader : List T := [.agg SHeader.ts, .agg SHeader.ts]
noncomputable def c_R23_SameHeader {R : Type} : CallF R := callHook args_R23_SameHeader hp_R23_SameHeader hr_R23_SameHeader
abbrev G_R23_SameHeader : Prop := Good1 (R := V) Tryz.prog 21 c_R23_SameHeader
noncomputable def hp_R23_SameParams (l : List At) : Bool := match l with
  | .i x0 :: .i x1 :: .i x2 :: .i x3 :: .i x4 :: .r x5 :: .i x6 :: .i x7 :: .b x8 :: .b x9 :: .b x10 :: .b x11 :: .b x12 :: .b x13 :: .b x14 :: .b x15 :: .r x16 :: .i x17 :: .i x18 :: .i x19 :: .i x20 :: .i x21 :: .i x22 :: .i x23 :: .r x24 :: .i x25 :: .i x26 :: .b x27 :: .b x28 :: .b x29 :: .b x30 :: .b x31 :: .b x32 :: .b x33 :: .b x34 :: .r x35 :: .i x36 :: .i x37 :: [] => pre_R23_SameParams (SParams.mk x0 x1 x2 x3 x4 x5 x6 x7 (SMode.mk x8 x9 x10 x11 x12) x13 x14 x15 x16 x17 x18) (SParams.mk x19 x20 x21 x22 x23 x24 x25 x26 (SMode.mk x27 x28 x29 x30 x31) x32 x33 x34 x35 x36 x37)
  | _ => false
noncomputable def hr_R23_SameParams (l : List At) : V := match l with
  | .i x0 :: .i x1 :: .i x2 :: .i x3 :: .i x4 :: .r x5 :: .i x6 :: .i x7 :: .b x8 :: .b x9 :: .b x10 :: .b x11 :: .b x12 :: .b x13 :: .b x14 :: .b x15 :: .r x16 :: .i x17 :: .i x18 :: .i x19 :: .i x20 :: .i x21 :: .i x22 :: .i x23 :: .r x24 :: .i x25 :: .i x26 :: .b x27 :: .b x28 :: .b x29 :: .b x30 :: .b x31 :: .b x32 :: .b x33 :: .b x34 :: .r x35 :: .i x36 :: .i x37 :: [] => (V.bool (m_R23_SameParams (SParams.mk x0 x1 x2 x3 x4 x5 x6 x7 (SMode.mk x8 x9 x10 x11 x12) x13 x14 x15 x16 x17 x18) (SParams.mk x19 x20 x21 x22 x23 x24 x25 x26 (SMode.mk x27 x28 x29 x30 x31) x32 x33 x34 x35 x36 x37)))
  | _ => .undef
abbrev args_R23_SameParams : List T := [.agg SParams.ts, .agg SParams.ts]
noncomputable def c_R23_SameParams {R : Type} : CallF R := callHook args_R23_SameParams hp_R23_SameParams hr_R23_SameParams
abbrev G_R23_SameParams : Prop := Good1 (R := V) Tryz.prog 22 c_R23_SameParams
noncomputable def hp_R23_Same (l : List At) : Bool := match l with
  | .i x0 :: .i x1 :: .i x2 :: .i x3 :: .i x4 :: .i x5 :: .r x6 :: .i x7 :: .i x8 :: .i x9 :: .i x10 :: .i x11 :: .i x12 :: .r x13 :: .i x14 :: .i x15 :: .i x16 :: .i x17 :: .i x18 :: .r x19 :: .i x20 :: .i x21 :: .b x22 :: .b x23 :: .b x24 :: .b x25 :: .b x26 :: .b x27 :: .b x28 :: .b x29 :: .r x30 :: .i x31 :: .i x32 :: .i x33 :: .i x34 :: .i x35 :: .i x36 :: .i x37 :: .r x38 :: .i x39 :: .i x40 :: .b x41 :: .b x42 :: .b x43 :: .b x44 :: .b x45 :: .b x46 :: .b x47 :: .b x48 :: .r x49 :: .i x50 :: .i x51 :: [] => pre_R23_Same (SHeader.mk (SRect.mk x0 x1 x2 x3) x4 x5 x6) (SHeader.mk (SRect.mk x7 x8 x9 x10) x11 x12 x13) (SParams.mk x14 x15 x16 x17 x18 x19 x20 x21 (SMode.mk x22 x23 x24 x25 x26) x27 x28 x29 x30 x31 x32) (SParams.mk x33 x34 x35 x36 x37 x38 x39 x40 (SMode.mk x41 x42 x43 x44 x45) x46 x47 x48 x49 x50 x51)
  | _ => false
noncomputable def hr_R23_Same (l : List At) : V := match l with
  | .i x0 :: .i x1 :: .i x2 :: .i x3 :: .i x4 :: .i x5 :: .r x6 :: .i x7 :: .i x8 :: .i x9 :: .i x10 :: .i x11 :: .i x12 :: .r x13 :: .i x14 :: .i x15 :: .i x16 :: .i x17 :: .i x18 :: .r x19 :: .i x20 :: .i x21 :: .b x22 :: .b x23 :: .b x24 :: .b x25 :: .b x26 :: .b x27 :: .b x28 :: .b x29 :: .r x30 :: .i x31 :: .i x32 :: .i x33 :: .i x34 :: .i x35 :: .i x36 :: .i x37 :: .r x38 :: .i x39 :: .i x40 :: .b x41 :: .b x42 :: .b x43 :: .b x44 :: .b x45 :: .b x46 :: .b x47 :: .b x48 :: .r x49 :: .i x50 :: .i x51 :: [] => (V.tup [(V.bool (m_R23_Same (SHeader.mk (SRect.mk x0 x1 x2 x3) x4 x5 x6) (SHeader.mk (SRect.mk x7 x8 x9 x10) x11 x12 x13) (SParams.mk x14 x15 x16 x17 x18 x19 x20 x21 (SMode.mk x22 x23 x24 x25 x26) x27 x28 x29 x30 x31 x32) (SParams.mk x33 x34 x35 x36 x37 x38 x39 x40 (SMode.mk x41 x42 x43 x44 x45) x46 x47 x48 x49 x50 x51)).1), (V.bool (m_R23_Same (SHeader.mk (SRect.mk x0 x1 x2 x3) x4 x5 x6) (SHeader.mk (SRect.mk x7 x8 x9 x10) x11 x12 x13) (SParams.mk x14 x15 x16 x17 x18 x19 x20 x21 (SMode.mk x22 x23 x24 x25 x26) x27 x28 x29 x30 x31 x32) (SParams.mk x33 x34 x35 x36 x37 x38 x39 x40 (SMode.mk x41 x42 x43 x44 x45) x46 x47 x48 x49 x50 x51)).2)])
  | _ => .undef
abbrev args_R23_Same : List T := [.agg SHeader.ts, .agg SHeader.ts, .agg SParams.ts, .agg SParams.ts]
noncomputable def c_R23_Same {R : Type} : CallF R := callHook args_R23_Same hp_R23_Same hr_R23_Same
abbrev G_R23_Same : Prop := Good1 (R := V) Tryz.prog 8 c_R23_Same
noncomputable def hp_L43_TrimHeaders (l : List At) : Bool := match l with
  | .i _ :: .i _ :: .i _ :: .i _ :: .i _ :: .i _ :: .r _ :: .i _ :: [] => true
  | _ => false
noncomputable def hr_L43_TrimHeaders (l : List At) : V := match l with
  | .i x0 :: .i x1 :: .i x2 :: .i x3 :: .i x4 :: .i x5 :: .r x6 :: .i x7 :: [] => (V.bool (m_L43_TrimHeaders (SHeader.mk (SRect.mk x0 x1 x2 x3) x4 x5 x6) x7))
  | _ => .undef
abbrev args_L43_TrimHeaders : List T := [.agg SHeader.ts, .int .i64]
noncomputable def c_L43_TrimHeaders {R : Type} : CallF R := callHook args_L43_TrimHeaders hp_L43_TrimHeaders hr_L43_TrimHeaders
abbrev G_L43_TrimHeaders : Prop := Good1 (R := V) Tryz.prog 3 c_L43_TrimHeaders
end Go.Vm
