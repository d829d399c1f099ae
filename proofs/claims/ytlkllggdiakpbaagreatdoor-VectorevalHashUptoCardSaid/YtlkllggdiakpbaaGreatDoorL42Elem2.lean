/- Law 42: the functions that work element by element, further. -/
import Derived.Test.YtlkllggdiakpbaaGreatDoorL42Elem
set_option linter.unusedVariables false
set_option linter.unusedSimpArgs false
namespace Go.Proofs.Tryz
open Go.Eng
/-! ## isNull -/
/-! ## and, or -/
def jun (c : Int) (a b : Val) : Val := bif decide (c = 0) then andL false [a, b] else orL false [a, b]
/-! ## Comparing -/
end Go.Proofs.Tryz
