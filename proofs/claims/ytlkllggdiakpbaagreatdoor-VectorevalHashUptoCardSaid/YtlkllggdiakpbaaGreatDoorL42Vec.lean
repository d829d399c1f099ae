/- Law 42: vectors as lists of values. -/
import Derived.Test.YtlkllggdiakpbaaGreatDoorL42Ex
import Derived.Test.YtlkllggdiakpbaaGreatDoorL42Eqs
set_option linter.unusedVariables false
set_option linter.unusedSimpArgs false
namespace Go.Proofs.Tryz
open Go.Eng
def isNum (t : Int) : Bool := decide (t = 1) || decide (t = 2)
def vecOf (t : Int) (l : List Val) : Vec := ⟨t, bif isNum t then l.map Val.int else [], bif decide (t = 3) then l.map Val.text else [], l.map fun v => decide (v.kind = 0)⟩
def tup (v : Vec) : HC NN.ρ AGV := (v.f_Type, v.ints, v.texts, v.nulls, ())
theorem vec_type (t : Int) (l : List Val) : (vecOf t l).f_Type = t := rfl
theorem vec_len (t : Int) (l : List Val) : (vecOf t l).nulls.length = l.length := by simp [vecOf]
def fitsV (t : Int) (v : Val) : Prop := v.kind = 0 ∨ v.kind = t
def isTyp (t : Int) : Prop := 0 ≤ t ∧ t ≤ 3
/-! ## Constants -/
end Go.Proofs.Tryz
