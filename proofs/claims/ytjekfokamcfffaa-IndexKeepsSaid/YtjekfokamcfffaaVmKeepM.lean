/- IndexKeeps: what Keep yields. -/
import Derived.Test.YtjekfokamcfffaaVmT1
import Derived.Test.YtjekfokamcfffaaVmLaw
set_option linter.unusedVariables false
namespace Go.Vm

def inSpan (i : Nat) (s : List V) : Bool := decide (V.toInt (s.getD 0 .undef) ≤ (i : Int)) && decide ((i : Int) < V.toInt (s.getD 1 .undef))
def keepM (rb rs : List (List V)) : List (List V) := (List.range rb.length).map fun i => if rs.any (inSpan i) then rb.getD i [] else [V.int .u8 0]
end Go.Vm
