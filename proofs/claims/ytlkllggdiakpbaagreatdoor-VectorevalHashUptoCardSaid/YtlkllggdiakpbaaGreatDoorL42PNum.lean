/- Law 42: products, arithmetic, membership as the program computes them. -/
import Derived.Test.YtlkllggdiakpbaaGreatDoorL42PVal
import Derived.Test.YtlkllggdiakpbaaGreatDoorEngine5
set_option linter.unusedVariables false
set_option linter.unusedSimpArgs false
namespace Go.Proofs.Tryz
open Go.Eng
end Go.Proofs.Tryz
