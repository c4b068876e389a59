import Derived.Test.YtplgoojpbnobiaaGreatWM
set_option linter.unusedVariables false
set_option linter.unusedSimpArgs false
set_option maxRecDepth 100000
noncomputable section
namespace Go.Vm
open Go.Proofs
theorem pt_rect_CeilDiv (a0 a1 : Int) : pre_rect_CeilDiv a0 a1 = true := by
  repeat' (first | rfl | (refine pre_bif ?_ ?_ <;> intro _))
  all_goals (simp_all [inR] <;> omega)
theorem pt_rect_FloorDiv (a0 a1 : Int) : pre_rect_FloorDiv a0 a1 = true := by
  repeat' (first | rfl | (refine pre_bif ?_ ?_ <;> intro _))
  all_goals (simp_all [inR] <;> omega)
theorem pt_R01_CeilDiv (a0 a1 : Int) : pre_R01_CeilDiv a0 a1 = true := by
  repeat' (first | rfl | (refine pre_bif ?_ ?_ <;> intro _))
  all_goals (simp_all [inR] <;> omega)
theorem pt_R01_FloorDiv (a0 a1 : Int) : pre_R01_FloorDiv a0 a1 = true := by
  repeat' (first | rfl | (refine pre_bif ?_ ?_ <;> intro _))
  all_goals (simp_all [inR] <;> omega)
end Go.Vm
