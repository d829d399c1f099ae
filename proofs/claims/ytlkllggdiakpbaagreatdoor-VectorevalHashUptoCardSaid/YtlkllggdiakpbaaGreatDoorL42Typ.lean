/- Law 42: the types of expressions. -/
import Derived.Test.YtlkllggdiakpbaaGreatDoorL42Bound
set_option linter.unusedVariables false
set_option linter.unusedSimpArgs false
namespace Go.Proofs.Tryz
open Go.Eng
def compat (t o : Int) : Bool := decide (t = 0) || decide (t = o)
def comT : Int → List Int → Int × Bool
 | t, [] => (t, true)
 | t, x :: l => bif compat x (bif decide (t = 0) then x else t) then comT (bif decide (t = 0) then x else t) l else (0, false)
def binT (op : Int) (l : List Int) : Int × Bool :=
 bif !decide ((l.length : Int) = 2) then (0, false) else
 bif decide (1 ≤ op) && decide (op ≤ 6) then (1, (comT 0 l).2) else
 bif decide (op = 7) || decide (op = 8) then (1, compat (l.getD 0 0) 1 && compat (l.getD 1 0) 1) else
 bif decide (op = 14) then (3, compat (l.getD 0 0) 3 && compat (l.getD 1 0) 3) else
 bif decide (op = 15) then (1, compat (l.getD 0 0) 3 && compat (l.getD 1 0) 3) else
 bif decide (op < 9) || decide (13 < op) then (0, false) else (2, compat (l.getD 0 0) 2 && compat (l.getD 1 0) 2)
def caseV : List Int → Option (List Int)
 | [] => some []
 | [x] => some [x]
 | c :: v :: r => bif compat c 1 then (caseV r).map (v :: ·) else none
def caseT (l : List Int) : Int × Bool := bif decide ((l.length : Int) < 2) then (0, false) else match caseV l with
 | none => (0, false)
 | some vs => comT 0 vs
/-! ## Calls -/
def nLength : List Int := [108, 101, 110, 103, 116, 104]
def nUpper : List Int := [117, 112, 112, 101, 114]
def nLower : List Int := [108, 111, 119, 101, 114]
def nSubstr : List Int := [115, 117, 98, 115, 116, 114]
def nAbs : List Int := [97, 98, 115]
def nParity : List Int := [112, 97, 114, 105, 116, 121]
def nStarts : List Int := [115, 116, 97, 114, 116, 115, 95, 119, 105, 116, 104]
def nNullif : List Int := [110, 117, 108, 108, 105, 102]
def nCoalesce : List Int := [99, 111, 97, 108, 101, 115, 99, 101]
def nLeast : List Int := [108, 101, 97, 115, 116]
def nGreatest : List Int := [103, 114, 101, 97, 116, 101, 115, 116]
def sigT (x : List Int) : List Int × Int × Bool :=
 bif decide (x = nLength) then ([3], 2, true) else bif decide (x = nUpper) then ([3], 3, true) else bif decide (x = nLower) then ([3], 3, true) else
 bif decide (x = nSubstr) then ([3, 2, 2], 3, true) else bif decide (x = nAbs) then ([2], 2, true) else bif decide (x = nParity) then ([2], 2, true) else
 bif decide (x = nStarts) then ([3, 3], 1, true) else ([], 0, false)
def genT (x : List Int) (n : Nat) : Bool :=
 (decide (x = nNullif) && decide ((n : Int) = 2)) || ((decide (x = nCoalesce) || decide (x = nLeast) || decide (x = nGreatest)) && decide (1 ≤ (n : Int)))
def fitT : List Int → List Int → Bool
 | _, [] => true
 | [], _ :: _ => true
 | a :: l, p :: q => (decide (a = p) || decide (a = 0)) && fitT l q
def resT (x : List Int) (l : List Int) : Int × Bool :=
 bif decide (256 < (l.length : Int)) then (0, false) else bif genT x l.length then comT 0 l else
 bif !(sigT x).2.2 then (0, false) else bif !decide (((sigT x).1.length : Int) = l.length) then (0, false) else bif fitT l (sigT x).1 then ((sigT x).2.1, true) else (0, false)
/-! ## Well typed -/
structure Flat (e : Ex) : Prop where
 value : e.kind ≠ 1 → e.value = zVal
 slot : e.kind ≠ 2 → e.slot = 0 ∧ e.table = []
 op : e.kind ≠ 5 → e.op = 0
 name : e.name = [] ∨ e.kind = 2 ∨ e.kind = 9
 distinct : e.distinct = false
 part : e.partitionBy = []
 ord : e.orderBy = []
 args : e.args.length ≤ 256
def btype (ts : List Int) (e : Ex) (l : List Int) : Int × Bool :=
 bif decide (e.kind = 1) then (e.value.kind, valid e.value && decide ((l.length : Int) = 0)) else
 bif decide (e.kind = 2) then (bif decide (e.slot < 0) || decide ((ts.length : Int) ≤ e.slot) || decide (0 < (l.length : Int)) then (0, false) else (ts.getD e.slot.toNat 0, true)) else
 bif decide (e.kind = 3) then (1, decide ((l.length : Int) = 1) && compat (l.getD 0 0) 1) else
 bif decide (e.kind = 4) then (2, decide ((l.length : Int) = 1) && compat (l.getD 0 0) 2) else
 bif decide (e.kind = 5) then binT e.op l else
 bif decide (e.kind = 6) then (1, decide ((l.length : Int) = 1)) else
 bif decide (e.kind = 7) then (1, (comT 0 l).2 && decide (2 ≤ (l.length : Int))) else
 bif decide (e.kind = 8) then caseT l else
 bif decide (e.kind = 9) then resT e.name l else (0, false)
inductive WT (ts : List Int) : Ex → Prop
 | mk {e : Ex} (flat : Flat e) (type : btype ts e (e.args.map Ex.f_Type) = (e.f_Type, true)) (args : ∀ a ∈ e.args, WT ts a) : WT ts e
theorem WT.inv {ts : List Int} {e : Ex} (h : WT ts e) : Flat e ∧ btype ts e (e.args.map Ex.f_Type) = (e.f_Type, true) ∧ ∀ a ∈ e.args, WT ts a := by
 cases h with | mk a b c => exact ⟨a, b, c⟩
def typs : List Int := [2, 2, 3, 1, 2, 1, 3, 0]
structure Fine (e : Ex) : Prop where
 nod : nod e < 200
 dep : dep e ≤ 32
 wt : WT typs e
end Go.Proofs.Tryz
