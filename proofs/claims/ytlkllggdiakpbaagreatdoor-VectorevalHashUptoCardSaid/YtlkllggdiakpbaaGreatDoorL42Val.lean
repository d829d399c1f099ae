/- Law 42: the reference's values: comparing, logic, arithmetic. -/
import Derived.Test.YtlkllggdiakpbaaGreatDoorL42Eqs
import Derived.Test.YtlkllggdiakpbaaGreatDoorL42Typ
set_option linter.unusedVariables false
set_option linter.unusedSimpArgs false
namespace Go.Proofs.Tryz
open Go.Eng
def sgn (a b : Bool) : Int := bif a then -1 else bif b then 1 else 0
def vcmp (a b : Val) : Int :=
 bif !decide (a.kind = b.kind) then sgn (decide (a.kind < b.kind)) true else
 bif decide (a.kind = 3) then sgn (strLt a.text b.text) (strLt b.text a.text) else sgn (decide (a.int < b.int)) (decide (b.int < a.int))
def holdsC (op c : Int) : Bool :=
 bif decide (op = 1) then decide (c = 0) else bif decide (op = 2) then !decide (c = 0) else bif decide (op = 3) then decide (c < 0) else
 bif decide (op = 4) then decide (c ≤ 0) else bif decide (op = 5) then decide (0 < c) else bif decide (op = 6) then decide (0 ≤ c) else false
def vtest (op : Int) (a b : Val) : Val :=
 bif decide (a.kind = 0) then zVal else bif !decide (a.kind = b.kind) then zVal else bif decide (op < 1) then zVal else bif decide (6 < op) then zVal else vbool (holdsC op (vcmp a b))
def isT (v : Val) : Bool := decide (v.kind = 1) && decide (v.int = 1)
def isF (v : Val) : Bool := decide (v.kind = 1) && decide (v.int = 0)
def andL : Bool → List Val → Val
 | u, [] => bif u then zVal else vbool true
 | u, v :: l => bif isF v then vbool false else andL (u || !isT v) l
def orL : Bool → List Val → Val
 | u, [] => bif u then zVal else vbool false
 | u, v :: l => bif isT v then vbool true else orL (u || !isF v) l
def vNot (v : Val) : Val := bif !decide (v.kind = 1) then zVal else vbool (decide (v.int = 0))
def intV (n : Int) : Val := ⟨2, n, []⟩
def vNeg (v : Val) : Val := bif !decide (v.kind = 2) then zVal else bif decide (v.int = -9223372036854775808) then zVal else intV (IntKind.i64.wrap (0 - v.int))
def mulV (a b : Int) : Int × Bool :=
 bif decide (a = 0) || decide (b = 0) then (0, true) else bif decide (a = -1) then (IntKind.i64.wrap (0 - b), !decide (b = -9223372036854775808)) else
 bif decide (b = -1) then (IntKind.i64.wrap (0 - a), !decide (a = -9223372036854775808)) else
 (IntKind.i64.wrap (a * b), decide (IntKind.i64.wrap ((IntKind.i64.wrap (a * b)).tdiv b) = a))
def numV (op a b : Int) : Int × Bool :=
 bif decide (op = 9) then (IntKind.i64.wrap (a + b), !((decide (0 < b) && decide (IntKind.i64.wrap (9223372036854775807 - b) < a)) || (decide (b < 0) && decide (a < IntKind.i64.wrap (-9223372036854775808 - b))))) else
 bif decide (op = 10) then (IntKind.i64.wrap (a - b), !((decide (b < 0) && decide (IntKind.i64.wrap (9223372036854775807 + b) < a)) || (decide (0 < b) && decide (a < IntKind.i64.wrap (-9223372036854775808 + b))))) else
 bif decide (op = 11) then mulV a b else
 bif decide (op = 12) then (bif decide (b = 0) then (0, false) else bif decide (a = -9223372036854775808) && decide (b = -1) then (0, false) else (IntKind.i64.wrap (a.tdiv b), true)) else
 bif decide (op = 13) then (bif decide (b = 0) then (0, false) else bif decide (b = -1) then (0, true) else (a.tmod b, true)) else (0, false)
def vArith (op : Int) (a b : Val) : Val :=
 bif !decide (a.kind = 2) then zVal else bif !decide (b.kind = 2) then zVal else bif !(numV op a.int b.int).2 then zVal else intV (numV op a.int b.int).1
def vConcat (a b : Val) : Val :=
 bif !decide (a.kind = 3) then zVal else bif !decide (b.kind = 3) then zVal else bif decide (4096 < a.text.length + b.text.length) then zVal else ⟨3, 0, a.text ++ b.text⟩
def atV (r : List Val) (i : Int) : Val := bif decide (i < 0) then zVal else bif decide ((r.length : Int) ≤ i) then zVal else r.getD i.toNat zVal
/-! ## LIKE -/
noncomputable def likeR (p s : List Int) : Bool := match F110.run [PK.v Ty.str, PK.v Ty.str] [RK.v Ty.bool] 40000000 (p, s, ()) with
 | some r => r.1.1
 | none => false
end Go.Proofs.Tryz
