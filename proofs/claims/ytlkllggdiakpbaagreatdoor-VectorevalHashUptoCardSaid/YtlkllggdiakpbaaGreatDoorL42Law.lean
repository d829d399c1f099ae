/- Law 42: what a law's guard lets in. -/
import Derived.Test.YtlkllggdiakpbaaGreatDoorL42Ref
import Derived.Test.YtlkllggdiakpbaaGreatDoorL42Lives
set_option linter.unusedVariables false
set_option linter.unusedSimpArgs false
namespace Go.Proofs.Tryz
open Go.Eng
/-! ## The size -/
end Go.Proofs.Tryz
