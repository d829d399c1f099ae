/- Law 42: binary operators, in, call over a scope. -/
import Derived.Test.YtlkllggdiakpbaaGreatDoorL42Scope
set_option linter.unusedVariables false
set_option linter.unusedSimpArgs false
namespace Go.Proofs.Tryz
open Go.Eng
/-! ## like -/
/-! ## binary -/
end Go.Proofs.Tryz
