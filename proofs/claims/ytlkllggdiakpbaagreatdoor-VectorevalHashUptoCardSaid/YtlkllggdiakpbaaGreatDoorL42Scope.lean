/- Law 42: the evaluation over a scope: rows, scatter, binary, in, call. -/
import Derived.Test.YtlkllggdiakpbaaGreatDoorL42Tab
set_option linter.unusedVariables false
set_option linter.unusedSimpArgs false
namespace Go.Proofs.Tryz
open Go.Eng
def Sp (C : Tabl) (L : Nat) (g : G33) (e : Ex) : Prop := ∀ s, Selc L s → g (⟨cols C, s⟩, e, ()) = some ((vecOf e.f_Type (EV C s e), ()), ())
theorem vec_eta (v : Vec) : Vec.mk v.f_Type v.ints v.texts v.nulls = v := by cases v; rfl
/-! ## rows -/
def sub (s pos : List Int) : List Int := pos.map fun p => s.getD p.toNat 0
def Posn (n : Nat) (pos : List Int) : Prop := pos.length ≤ 1000 ∧ ∀ p ∈ pos, 0 ≤ p ∧ p < (n : Int)
/-! ## scatter -/
end Go.Proofs.Tryz
