/- Law 42: call, case over a scope. -/
import Derived.Test.YtlkllggdiakpbaaGreatDoorL42Case
set_option linter.unusedVariables false
set_option linter.unusedSimpArgs false
namespace Go.Proofs.Tryz
open Go.Eng
/-! ## call -/
/-! ## case -/
noncomputable def W (C : Tabl) (s : List Int) (l : List Ex) (j : Nat) : Val := chooseV (l.map (ev (rowOf C (s.getD j 0).toNat)))
end Go.Proofs.Tryz
