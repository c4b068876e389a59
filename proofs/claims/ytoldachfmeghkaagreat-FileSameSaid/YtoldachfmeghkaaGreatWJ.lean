import Derived.Test.YtoldachfmeghkaaGreatWF4
import Derived.Test.YtoldachfmeghkaaGreatWF6
import Derived.Test.YtoldachfmeghkaaGreatWP8
import Derived.Test.YtoldachfmeghkaaGreatWG0
import Derived.Test.YtoldachfmeghkaaGreatWG1
import Derived.Test.YtoldachfmeghkaaGreatWG2
import Derived.Test.YtoldachfmeghkaaGreatWG3
import Derived.Test.YtoldachfmeghkaaGreatWG4
import Derived.Test.YtoldachfmeghkaaGreatWG5
import Derived.Test.YtoldachfmeghkaaGreatWG6
import Derived.Test.YtoldachfmeghkaaGreatWG7
noncomputable section
namespace Go.Vm
open Go.Proofs
theorem g_R28_ReadUint : G_R28_ReadUint := good_R28_ReadUint_of
theorem g_R28_Known : G_R28_Known := good_R28_Known_of
theorem g_R28_Bare : G_R28_Bare := good_R28_Bare_of
theorem g_R28_Read : G_R28_Read := good_R28_Read_of g_R28_ReadUint g_R28_Known g_R28_Bare
theorem g_R28_All : G_R28_All := good_R28_All_of g_R28_Read g_R28_ReadUint
theorem g_R29_framed : G_R29_framed := good_R29_framed_of
theorem g_R29_get : G_R29_get := good_R29_get_of
theorem g_R01_Valid : G_R01_Valid := good_R01_Valid_of
theorem g_R01_Empty : G_R01_Empty := good_R01_Empty_of
theorem g_R01_CeilDiv : G_R01_CeilDiv := good_R01_CeilDiv_of
theorem g_R01_Reduce : G_R01_Reduce := good_R01_Reduce_of g_R01_Valid g_R01_CeilDiv
theorem g_R23_in : G_R23_in := good_R23_in_of
theorem g_R01_FloorDiv : G_R01_FloorDiv := good_R01_FloorDiv_of
theorem g_R23_tiles : G_R23_tiles := good_R23_tiles_of g_R01_CeilDiv g_R01_FloorDiv
theorem g_R01_Area : G_R01_Area := good_R01_Area_of g_R01_Valid
theorem g_R23_Header : G_R23_Header := good_R23_Header_of g_R01_Valid g_R01_Empty g_R01_Reduce g_R23_in g_R23_tiles g_R01_Area
theorem g_R29_ParseSize : G_R29_ParseSize := good_R29_ParseSize_of g_R29_framed g_R29_get g_R23_Header
theorem g_R29_ParseCoding : G_R29_ParseCoding := good_R29_ParseCoding_of g_R29_framed
theorem g_R23_Clone : G_R23_Clone := good_R23_Clone_of
theorem g_R29_ParseQuant : G_R29_ParseQuant := good_R29_ParseQuant_of g_R29_framed g_R29_get g_R23_Clone
theorem g_R01_Intersect : G_R01_Intersect := good_R01_Intersect_of g_R01_Empty
theorem g_R01_Cells : G_R01_Cells := good_R01_Cells_of g_R01_Empty g_R01_Intersect g_R01_Valid g_R01_CeilDiv g_R01_FloorDiv
theorem g_R24_Tiles : G_R24_Tiles := good_R24_Tiles_of g_R23_Header g_R01_Cells
theorem g_R23_kinds : G_R23_kinds := good_R23_kinds_of
theorem g_R23_numbers : G_R23_numbers := good_R23_numbers_of g_R23_in
theorem g_R06_Count : G_R06_Count := good_R06_Count_of
theorem g_R06_Resolution : G_R06_Resolution := good_R06_Resolution_of g_R01_Reduce g_R06_Count
theorem g_R23_Precinct : G_R23_Precinct := good_R23_Precinct_of
theorem g_R23_Grid : G_R23_Grid := good_R23_Grid_of g_R01_Empty g_R01_CeilDiv g_R01_FloorDiv
theorem g_R23_Packets : G_R23_Packets := good_R23_Packets_of g_R01_Reduce g_R06_Resolution g_R23_Precinct g_R23_Grid
theorem g_R06_Place : G_R06_Place := good_R06_Place_of g_R06_Count
theorem g_R05_half : G_R05_half := good_R05_half_of
theorem g_R05_Bands : G_R05_Bands := good_R05_Bands_of g_R01_Valid g_R05_half
theorem g_R06_Band : G_R06_Band := good_R06_Band_of g_R01_Valid g_R06_Resolution g_R06_Place g_R05_Bands
theorem g_R23_Blocks : G_R23_Blocks := good_R23_Blocks_of g_R01_Reduce g_R23_Precinct g_R23_Grid g_R06_Band
theorem g_R23_Check : G_R23_Check := good_R23_Check_of g_R23_Header g_R01_Cells g_R23_kinds g_R23_numbers g_R23_Packets g_R23_Blocks
theorem g_R24_ValidTile : G_R24_ValidTile := good_R24_ValidTile_of g_R24_Tiles g_R23_Check
theorem g_R24_Packets : G_R24_Packets := good_R24_Packets_of g_R24_Tiles g_R23_Packets g_R24_ValidTile
theorem g_R35_Few : G_R35_Few := good_R35_Few_of g_R23_Header g_R24_Tiles g_R23_Check g_R24_Packets
theorem g_R35_FewBytes : G_R35_FewBytes := good_R35_FewBytes_of g_R28_All g_R29_ParseSize g_R29_ParseCoding g_R29_ParseQuant g_R35_Few
theorem g_R48_Few : G_R48_Few := good_R48_Few_of g_R35_FewBytes
theorem g_file_Parse : G_file_Parse := good_file_Parse_of
theorem g_file_Valid : G_file_Valid := good_file_Valid_of
theorem g_L48_awake : G_L48_awake := good_L48_awake_of g_file_Parse g_file_Valid
theorem g_slices_Equal_int_int : G_slices_Equal_int_int := good_slices_Equal_int_int_of
theorem g_colorspec_Same_1 : G_colorspec_Same_1 := good_colorspec_Same_1_of g_slices_Equal_int_int
theorem g_slices_EqualFunc_int_int_int_int : G_slices_EqualFunc_int_int_int_int := good_slices_EqualFunc_int_int_int_int_of g_colorspec_Same_1
theorem g_colorspec_Same : G_colorspec_Same := good_colorspec_Same_of g_slices_Equal_int_int g_slices_EqualFunc_int_int_int_int
theorem g_file_Same : G_file_Same := good_file_Same_of g_colorspec_Same
theorem g_R46_sameInts : G_R46_sameInts := good_R46_sameInts_of
theorem g_R46_Same : G_R46_Same := good_R46_Same_of g_R46_sameInts
theorem g_R47_Same : G_R47_Same := good_R47_Same_of
theorem g_R27_SameBytes : G_R27_SameBytes := good_R27_SameBytes_of
theorem g_R48_Same : G_R48_Same := good_R48_Same_of g_R46_Same g_R47_Same g_R27_SameBytes
theorem g_L48_FileSame : G_L48_FileSame := good_L48_FileSame_of g_R48_Few g_L48_awake g_file_Same g_R48_Same
end Go.Vm
