/- Law 42: products and arithmetic as the program computes them. -/
import Derived.Test.YtlkllggdiakpbaaGreatDoorL42PNum
set_option linter.unusedVariables false
set_option linter.unusedSimpArgs false
namespace Go.Proofs.Tryz
open Go.Eng
def inR (z : Int) : Prop := -9223372036854775808 ≤ z ∧ z < 9223372036854775808
instance (z : Int) : Decidable (inR z) := inferInstanceAs (Decidable (_ ∧ _))
end Go.Proofs.Tryz
