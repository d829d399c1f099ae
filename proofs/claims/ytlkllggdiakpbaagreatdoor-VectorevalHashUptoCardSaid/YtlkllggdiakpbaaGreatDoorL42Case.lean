/- Law 42: in, call, case over a scope. -/
import Derived.Test.YtlkllggdiakpbaaGreatDoorL42Bin
set_option linter.unusedVariables false
set_option linter.unusedSimpArgs false
namespace Go.Proofs.Tryz
open Go.Eng
/-! ## in -/
end Go.Proofs.Tryz
