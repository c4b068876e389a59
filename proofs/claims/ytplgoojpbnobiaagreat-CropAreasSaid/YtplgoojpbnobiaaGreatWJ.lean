import Derived.Test.YtplgoojpbnobiaaGreatWQ3
import Derived.Test.YtplgoojpbnobiaaGreatWG0
import Derived.Test.YtplgoojpbnobiaaGreatWG1
import Derived.Test.YtplgoojpbnobiaaGreatWG2
import Derived.Test.YtplgoojpbnobiaaGreatWG3
noncomputable section
namespace Go.Vm
open Go.Proofs
theorem g_rect_Valid : G_rect_Valid := good_rect_Valid_of
theorem g_rect_Empty : G_rect_Empty := good_rect_Empty_of
theorem g_rect_CeilDiv : G_rect_CeilDiv := good_rect_CeilDiv_of
theorem g_rect_Reduce : G_rect_Reduce := good_rect_Reduce_of g_rect_Valid g_rect_CeilDiv
theorem g_params_within : G_params_within := good_params_within
theorem g_rect_FloorDiv : G_rect_FloorDiv := good_rect_FloorDiv_of
theorem g_rect_Area : G_rect_Area := good_rect_Area_of g_rect_Valid
theorem g_params_Header : G_params_Header := good_params_Header_of g_rect_Valid g_rect_Empty g_rect_Reduce g_params_within g_rect_CeilDiv g_rect_FloorDiv g_rect_Area
theorem g_marker_ReadUint : G_marker_ReadUint := good_marker_ReadUint_of
theorem g_marker_Known : G_marker_Known := good_marker_Known_of
theorem g_marker_Read : G_marker_Read := good_marker_Read g_marker_ReadUint g_marker_Known
theorem g_stream_readMain : G_stream_readMain := good_stream_readMain g_marker_Read
theorem g_stream_Parse : G_stream_Parse := good_stream_Parse g_stream_readMain
theorem g_R01_Valid : G_R01_Valid := good_R01_Valid_of
theorem g_R01_Empty : G_R01_Empty := good_R01_Empty_of
theorem g_R01_CeilDiv : G_R01_CeilDiv := good_R01_CeilDiv_of
theorem g_R01_Reduce : G_R01_Reduce := good_R01_Reduce_of g_R01_Valid g_R01_CeilDiv
theorem g_R23_in : G_R23_in := good_R23_in_of
theorem g_R01_FloorDiv : G_R01_FloorDiv := good_R01_FloorDiv_of
theorem g_R23_tiles : G_R23_tiles := good_R23_tiles_of g_R01_CeilDiv g_R01_FloorDiv
theorem g_R01_Area : G_R01_Area := good_R01_Area_of g_R01_Valid
theorem g_R23_Header : G_R23_Header := good_R23_Header_of g_R01_Valid g_R01_Empty g_R01_Reduce g_R23_in g_R23_tiles g_R01_Area
theorem g_rect_Intersect : G_rect_Intersect := good_rect_Intersect_of g_rect_Empty
theorem g_rect_Cells : G_rect_Cells := good_rect_Cells_of g_rect_Valid g_rect_Empty g_rect_Intersect g_rect_CeilDiv g_rect_FloorDiv
theorem g_layout_Tiles : G_layout_Tiles := good_layout_Tiles_of g_params_Header g_rect_Cells
theorem g_crop_touched : G_crop_touched := good_crop_touched_of g_rect_Empty g_layout_Tiles g_rect_Intersect
theorem g_rect_Bound : G_rect_Bound := good_rect_Bound_of g_rect_Empty
theorem g_crop_Area : G_crop_Area := good_crop_Area_of g_params_Header g_crop_touched g_rect_Valid g_rect_Bound
theorem g_crop_pair : G_crop_pair := good_crop_pair g_stream_Parse
theorem g_crop_Join : G_crop_Join := good_crop_Join g_crop_pair
theorem g_crop_Replace : G_crop_Replace := good_crop_Replace g_crop_pair
theorem g_L44_exampleHolds : G_L44_exampleHolds := good_L44_exampleHolds_of g_crop_Area g_crop_Join g_crop_Replace
theorem g_R01_Intersect : G_R01_Intersect := good_R01_Intersect_of g_R01_Empty
theorem g_R01_Cells : G_R01_Cells := good_R01_Cells_of g_R01_Empty g_R01_Intersect g_R01_Valid g_R01_CeilDiv g_R01_FloorDiv
theorem g_R24_Tiles : G_R24_Tiles := good_R24_Tiles_of g_R23_Header g_R01_Cells
theorem g_R01_Bound : G_R01_Bound := good_R01_Bound_of g_R01_Empty
theorem g_R44_Area : G_R44_Area := good_R44_Area_of g_R23_Header g_R01_Valid g_R01_Empty g_R01_Intersect g_R24_Tiles g_R01_Bound
theorem g_L44_CropAreas : G_L44_CropAreas := good_L44_CropAreas_of g_L44_exampleHolds g_crop_Area g_R44_Area
end Go.Vm
