import Derived.Test.YtplgoojpbnobiaaGreatWQ3
import Derived.Test.YtplgoojpbnobiaaGreatWG0
import Derived.Test.YtplgoojpbnobiaaGreatWG1
import Derived.Test.YtplgoojpbnobiaaGreatWG2
import Derived.Test.YtplgoojpbnobiaaGreatWG3
noncomputable section
namespace Go.Vm
open Go.Proofs
theorem g_rect_Valid : G_rect_Valid := good_rect_Valid_of
theorem g_rect_Empty : G_rect_Empty := good_rect_Empty_of
theorem g_rect_CeilDiv : G_rect_CeilDiv := good_rect_CeilDiv_of
theorem g_rect_Reduce : G_rect_Reduce := good_rect_Reduce_of g_rect_Valid g_rect_CeilDiv
theorem g_params_within : G_params_within := good_params_within
theorem g_rect_FloorDiv : G_rect_FloorDiv := good_rect_FloorDiv_of
theorem g_rect_Area : G_rect_Area := good_rect_Area_of g_rect_Valid
theorem g_params_Header : G_params_Header := good_params_Header_of g_rect_Valid g_rect_Empty g_rect_Reduce g_params_within g_rect_CeilDiv g_rect_FloorDiv g_rect_Area
theorem g_slices_Clone_api_Component_api_Component : G_slices_Clone_api_Component_api_Component := good_slices_Clone_api_Component_api_Component_of
theorem g_slices_Clone_api_Point_api_Point : G_slices_Clone_api_Point_api_Point := good_slices_Clone_api_Point_api_Point_of
theorem g_slices_Clone_int_int : G_slices_Clone_int_int := good_slices_Clone_int_int_of
theorem g_params_Clone : G_params_Clone := good_params_Clone_of g_slices_Clone_api_Component_api_Component g_slices_Clone_api_Point_api_Point g_slices_Clone_int_int
theorem g_trim_Header : G_trim_Header := good_trim_Header_of g_params_Header g_params_Clone g_rect_Reduce
theorem g_marker_ReadUint : G_marker_ReadUint := good_marker_ReadUint_of
theorem g_marker_Known : G_marker_Known := good_marker_Known_of
theorem g_marker_Read : G_marker_Read := good_marker_Read g_marker_ReadUint g_marker_Known
theorem g_stream_readMain : G_stream_readMain := good_stream_readMain g_marker_Read
theorem g_stream_Parse : G_stream_Parse := good_stream_Parse g_stream_readMain
theorem g_trim_Layers : G_trim_Layers := good_trim_Layers g_stream_Parse
theorem g_trim_Components : G_trim_Components := good_trim_Components g_stream_Parse
theorem g_L43_exampleHolds : G_L43_exampleHolds := good_L43_exampleHolds_of g_trim_Header g_trim_Layers g_trim_Components
theorem g_R01_Valid : G_R01_Valid := good_R01_Valid_of
theorem g_R01_Empty : G_R01_Empty := good_R01_Empty_of
theorem g_R01_CeilDiv : G_R01_CeilDiv := good_R01_CeilDiv_of
theorem g_R01_Reduce : G_R01_Reduce := good_R01_Reduce_of g_R01_Valid g_R01_CeilDiv
theorem g_R23_in : G_R23_in := good_R23_in_of
theorem g_R01_FloorDiv : G_R01_FloorDiv := good_R01_FloorDiv_of
theorem g_R23_tiles : G_R23_tiles := good_R23_tiles_of g_R01_CeilDiv g_R01_FloorDiv
theorem g_R01_Area : G_R01_Area := good_R01_Area_of g_R01_Valid
theorem g_R23_Header : G_R23_Header := good_R23_Header_of g_R01_Valid g_R01_Empty g_R01_Reduce g_R23_in g_R23_tiles g_R01_Area
theorem g_R43_scale : G_R43_scale := good_R43_scale_of
theorem g_R23_Clone : G_R23_Clone := good_R23_Clone_of
theorem g_R43_Header : G_R43_Header := good_R43_Header_of g_R23_Header g_R43_scale g_R23_Clone g_R01_Reduce
theorem g_R23_SameHeader : G_R23_SameHeader := good_R23_SameHeader_of
theorem g_R23_SameParams : G_R23_SameParams := good_R23_SameParams_of
theorem g_R23_Same : G_R23_Same := good_R23_Same_of g_R23_SameHeader g_R23_SameParams
theorem g_L43_TrimHeaders : G_L43_TrimHeaders := good_L43_TrimHeaders_of g_L43_exampleHolds g_trim_Header g_R43_Header g_R23_Same
end Go.Vm
