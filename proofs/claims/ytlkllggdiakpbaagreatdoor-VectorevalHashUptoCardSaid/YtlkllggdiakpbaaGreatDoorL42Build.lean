/- Law 42: vectors that are built value by value (printed by genbuild.py). -/
import Derived.Test.YtlkllggdiakpbaaGreatDoorL42Test
set_option linter.unusedVariables false
set_option linter.unusedSimpArgs false
namespace Go.Proofs.Tryz
open Go.Eng
end Go.Proofs.Tryz
