/- Law 42: LIKE: by prefixes, and by going on from the last percent sign. -/
import Derived.Test.YtlkllggdiakpbaaGreatDoorL42Val
import Derived.Test.YtlkllggdiakpbaaGreatDoorL42Eqs
set_option linter.unusedVariables false
set_option linter.unusedSimpArgs false
namespace Go.Proofs.Tryz
open Go.Eng
inductive M : List Int → List Int → Prop
 | nil : M [] []
 | skip {p s : List Int} : M p s → M (37 :: p) s
 | eat {x : Int} {p s : List Int} : M (37 :: p) s → M (37 :: p) (x :: s)
 | chr {c x : Int} {p s : List Int} : c ≠ 37 → (c = 95 ∨ c = x) → M p s → M (c :: p) (x :: s)
/-! ## By prefixes -/
def DP (p s : List Int) (i : Nat) (m : List Bool) : Prop := m.length = s.length + 1 ∧ ∀ k, k ≤ s.length → (m.getD k false = true ↔ M (p.take i) (s.take k))
/-! ## From the last percent sign -/
def Stuck (p s : List Int) (pp i : Nat) : Prop := pp = p.length ∨ (p.getD pp 0 ≠ 37 ∧ p.getD pp 0 ≠ 95 ∧ p.getD pp 0 ≠ s.getD i 0)
end Go.Proofs.Tryz
