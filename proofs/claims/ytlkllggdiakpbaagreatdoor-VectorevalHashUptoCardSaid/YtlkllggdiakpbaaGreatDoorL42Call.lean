/- Law 42: the reference's functions. -/
import Derived.Test.YtlkllggdiakpbaaGreatDoorL42Val
set_option linter.unusedVariables false
set_option linter.unusedSimpArgs false
namespace Go.Proofs.Tryz
open Go.Eng
noncomputable def mappedR (s : List Int) (c d : Int) : List Int := match F140.run [PK.v Ty.str, PK.v (Ty.int .u8), PK.v (Ty.int .i64)] [RK.v Ty.str] 4000000 (s, c, d, ()) with
 | some r => r.1.1
 | none => []
def partB (a n : Int) (i : Nat) : Bool :=
 decide (a ≤ ((i + 1 : Nat) : Int)) && (decide (1 ≤ n) && ((decide (0 < a) && decide (IntKind.i64.wrap (((i + 1 : Nat) : Int) - a) < n)) || (decide (a ≤ 0) && (decide (-9223372036854775808 < a) && (decide (((i + 1 : Nat) : Int) < n) && decide (IntKind.i64.wrap (0 - a) < IntKind.i64.wrap (n - ((i + 1 : Nat) : Int))))))))
def partR (s : List Int) (a n : Int) : Nat → List Int → List Int
 | 0, out => out
 | d + 1, out => partR s a n d (bif partB a n (s.length - (d + 1)) then out ++ (s.drop (s.length - (d + 1))).take 1 else out)
def extB (g : Bool) (v out : Val) : Bool := !decide (v.kind = 0) && (decide (out.kind = 0) || ((g && decide (0 < vcmp v out)) || (!g && decide (vcmp v out < 0))))
def extL (g : Bool) : Val → List Val → Val
 | out, [] => out
 | out, v :: l => extL g (bif extB g v out then v else out) l
noncomputable def fixV (x : List Int) (l : List Val) : Val :=
 bif decide (x = nLength) then ⟨2, ((l.getD 0 zVal).text.length : Int), []⟩ else
 bif decide (x = nUpper) then ⟨3, 0, mappedR (l.getD 0 zVal).text 97 (-32)⟩ else
 bif decide (x = nLower) then ⟨3, 0, mappedR (l.getD 0 zVal).text 65 32⟩ else
 bif decide (x = nSubstr) then ⟨3, 0, partR (l.getD 0 zVal).text (l.getD 1 zVal).int (l.getD 2 zVal).int (l.getD 0 zVal).text.length []⟩ else
 bif decide (x = nAbs) then (bif decide ((l.getD 0 zVal).int = -9223372036854775808) then zVal else ⟨2, imax (l.getD 0 zVal).int (IntKind.i64.wrap (0 - (l.getD 0 zVal).int)), []⟩) else
 bif decide (x = nParity) then ⟨2, bits BinOp.and IntKind.i64 (l.getD 0 zVal).int 1, []⟩ else
 ⟨1, (bif decide ((l.getD 1 zVal).text.length ≤ (l.getD 0 zVal).text.length) && decide ((l.getD 0 zVal).text.take (l.getD 1 zVal).text.length = (l.getD 1 zVal).text) then 1 else 0), []⟩
def firstN : List Val → Val
 | [] => zVal
 | v :: l => bif !decide (v.kind = 0) then v else firstN l
def kindsOK : List Val → List Int → Bool
 | v :: l, k :: q => decide (v.kind = k) && kindsOK l q
 | _, _ => true
noncomputable def callV (x : List Int) (l : List Val) : Val :=
 bif genT x l.length then
  bif decide (x = nNullif) then (bif decide (vtest 1 (l.getD 0 zVal) (l.getD 1 zVal) = vbool true) then zVal else l.getD 0 zVal) else
  bif decide (x = nLeast) then extL false zVal l else bif decide (x = nGreatest) then extL true zVal l else firstN l
 else bif !(sigT x).2.2 then zVal else bif !decide (((sigT x).1.length : Int) = l.length) then zVal else bif kindsOK l (sigT x).1 then fixV x l else zVal
end Go.Proofs.Tryz
