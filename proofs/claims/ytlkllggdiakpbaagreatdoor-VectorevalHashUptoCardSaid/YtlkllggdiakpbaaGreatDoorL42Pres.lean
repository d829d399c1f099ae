/- Law 42: values have the types that the nodes say. -/
import Derived.Test.YtlkllggdiakpbaaGreatDoorL42PEv
set_option linter.unusedVariables false
set_option linter.unusedSimpArgs false
namespace Go.Proofs.Tryz
open Go.Eng
structure FitR (ts : List Int) (r : List Val) : Prop where
 len : r.length = ts.length
 valid : ∀ v ∈ r, valid v = true
 kinds : ∀ i, i < ts.length → (r.getD i zVal).kind ≠ 0 → (r.getD i zVal).kind = ts.getD i 0
def KK (v : Val) (t : Int) : Prop := v.kind = 0 ∨ v.kind = t
theorem b3 {v : Val} (hv : valid v = true) (hk : KK v 1) : v = zVal ∨ v = vbool false ∨ v = vbool true := by
 rcases hk with h | h
 ·exact .inl (valid_null hv h)
 ·exact .inr (valid_b2 hv h)
end Go.Proofs.Tryz
