/- Law 42: comparing vectors, gathering. -/
import Derived.Test.YtlkllggdiakpbaaGreatDoorL42Elem2
set_option linter.unusedVariables false
set_option linter.unusedSimpArgs false
namespace Go.Proofs.Tryz
open Go.Eng
def tst (op : Int) (l m : List Val) : List Val := (List.range l.length).map fun j => vtest op (l.getD j zVal) (m.getD j zVal)
/-! ## Gathering -/
def pick (l : List Val) (s : List Int) : List Val := s.map fun i => l.getD i.toNat zVal
end Go.Proofs.Tryz
