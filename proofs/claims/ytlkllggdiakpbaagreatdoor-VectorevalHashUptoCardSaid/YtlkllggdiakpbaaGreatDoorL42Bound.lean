/- Law 42: equality of expressions, their depth, which are well typed. -/
import Derived.Test.YtlkllggdiakpbaaGreatDoorL42Eqs
import Derived.Test.YtlkllggdiakpbaaGreatDoorL42Ex
set_option linter.unusedVariables false
set_option linter.unusedSimpArgs false
namespace Go.Proofs.Tryz
open Go.Eng
/-! ## Equal -/
/-! ## Depth -/
mutual
def dep : Ex → Nat
 | ⟨_, _, _, _, _, _, a, p, o, _, _⟩ => max (max (depL a) (depL p)) (depO o) + 1
def depL : List Ex → Nat
 | [] => 0
 | e :: l => max (dep e) (depL l)
def depO : List Ord1 → Nat
 | [] => 0
 | e :: l => max (depOne e) (depO l)
def depOne : Ord1 → Nat
 | ⟨e, _⟩ => dep e
end
mutual
theorem dep_sz : ∀ e, dep e ≤ sz e
 | ⟨_, _, _, _, _, _, a, p, o, _, _⟩ => by
  rw [dep, sz]
  have := depL_sz a
  have := depL_sz p
  have := depO_sz o
  omega
theorem depL_sz : ∀ l, depL l ≤ szL l
 | [] => Nat.le_refl _
 | e :: l => by
  rw [depL, szL]
  have := dep_sz e
  have := depL_sz l
  omega
theorem depO_sz : ∀ l, depO l ≤ szO l
 | [] => Nat.le_refl _
 | ⟨e, _⟩ :: l => by
  rw [depO, szO, depOne, szOne]
  have := dep_sz e
  have := depO_sz l
  omega
end
/-! ## The number of nodes -/
mutual
def nod : Ex → Nat
 | ⟨_, _, _, _, _, _, a, _, _, _, _⟩ => nodL a + 1
def nodL : List Ex → Nat
 | [] => 0
 | e :: l => nod e + nodL l
end
def Cnt (n m x : Nat) : Prop := x ≤ max (n + 1) 200 ∧ (x < 200 → x = n + m)
end Go.Proofs.Tryz
