/- Law 42: the reference's evaluation. -/
import Derived.Test.YtlkllggdiakpbaaGreatDoorL42Call
import Derived.Test.YtlkllggdiakpbaaGreatDoorL42WT
import Derived.Test.YtlkllggdiakpbaaGreatDoorL42Eqs
set_option linter.unusedVariables false
set_option linter.unusedSimpArgs false
namespace Go.Proofs.Tryz
open Go.Eng
noncomputable def vLike (a b : Val) : Val := bif !decide (a.kind = 3) then zVal else bif !decide (b.kind = 3) then zVal else vbool (likeR b.text a.text)
noncomputable def vBin (op : Int) (a b : Val) : Val :=
 bif decide (op = 7) then andL false [a, b] else bif decide (op = 8) then orL false [a, b] else
 bif decide (op = 9) || (decide (op = 10) || (decide (op = 11) || (decide (op = 12) || decide (op = 13)))) then vArith op a b else
 bif decide (op = 14) then vConcat a b else bif decide (op = 15) then vLike a b else vtest op a b
def vIn (l : List Val) : Val := orL false ((l.drop 1).map (vtest 1 (l.getD 0 zVal)))
def chooseV : List Val → Val
 | c :: v :: l => bif isT c then v else chooseV l
 | [x] => x
 | [] => zVal
/-! ## The value of an expression -/
noncomputable def evN (r : List Val) (kind op : Int) (v : Val) (slot : Int) (name : List Int) (l : List Val) : Val :=
 if kind = 1 then v else if kind = 2 then atV r slot else if kind = 3 then vNot (l.getD 0 zVal) else if kind = 4 then vNeg (l.getD 0 zVal) else
 if kind = 5 then vBin op (l.getD 0 zVal) (l.getD 1 zVal) else if kind = 6 then vbool (decide ((l.getD 0 zVal).kind = 0)) else if kind = 7 then vIn l else
 if kind = 8 then chooseV l else if kind = 9 then callV name l else zVal
mutual
noncomputable def ev (r : List Val) : Ex → Val
 | ⟨kind, op, v, _, name, _, a, _, _, slot, _⟩ => evN r kind op v slot name (evL r a)
noncomputable def evL (r : List Val) : List Ex → List Val
 | [] => []
 | e :: l => ev r e :: evL r l
end
/-! ## What comes out is valid -/
theorem valid_t {t : List Int} (h : t.length ≤ 4096) : valid ⟨3, 0, t⟩ = true := by
 unfold valid
 rw [if_neg (show ¬ (3 : Int) = 0 by decide), if_neg (show ¬ (3 : Int) = 1 by decide), if_neg (show ¬ (3 : Int) = 2 by decide), if_pos rfl, decide_eq_true h]; rfl
end Go.Proofs.Tryz
