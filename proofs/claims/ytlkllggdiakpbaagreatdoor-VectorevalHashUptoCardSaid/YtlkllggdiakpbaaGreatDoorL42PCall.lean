/- Law 42: the program's functions agree with the reference's. -/
import Derived.Test.YtlkllggdiakpbaaGreatDoorL42PMul
import Derived.Test.YtlkllggdiakpbaaGreatDoorL42Eqs
set_option linter.unusedVariables false
set_option linter.unusedSimpArgs false
namespace Go.Proofs.Tryz
open Go.Eng
/-! ## Letters -/
def stepB (lo hi d x : Int) : Int := bif decide (lo ≤ x) && decide (x ≤ hi) then IntKind.u8.wrap (IntKind.i64.wrap (IntKind.i64.wrap x + d)) else x
/-! ## Parts of a string -/
/-! ## The greatest and the least -/
/-! ## Functions of fixed types -/
def isGen (x : List Int) : Bool := decide (x = nCoalesce) || (decide (x = nLeast) || (decide (x = nGreatest) || decide (x = nNullif)))
end Go.Proofs.Tryz
