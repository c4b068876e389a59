import Derived.Test.YtplgoojpbnobiaaGreatWQ2
set_option linter.unusedVariables false
set_option linter.unusedSimpArgs false
set_option maxRecDepth 100000
noncomputable section
namespace Go.Vm
open Go.Proofs
def hit (l : Rows) (w : SRect) (i : Int) : Bool := !m_rect_Empty (m_rect_Intersect (SRect.of (List.getD l i.toNat [])) w)
end Go.Vm
