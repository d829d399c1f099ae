/- Law 42: batches as tables of values; what an expression's column is. -/
import Derived.Test.YtlkllggdiakpbaaGreatDoorL42Build
set_option linter.unusedVariables false
set_option linter.unusedSimpArgs false
namespace Go.Proofs.Tryz
open Go.Eng
abbrev Tabl := List (Int × List Val)
structure Tab (C : Tabl) (L : Nat) : Prop where
 col : ∀ c ∈ C, Col c.1 c.2
 len : ∀ c ∈ C, c.2.length = L
 gv : ∀ c ∈ C, ∀ v ∈ c.2, GV v
def cols (C : Tabl) : List Vec := C.map fun c => vecOf c.1 c.2
def tys42 (C : Tabl) : List Int := C.map (·.1)
def rowOf (C : Tabl) (i : Nat) : List Val := C.map fun c => c.2.getD i zVal
structure Selc (L : Nat) (s : List Int) : Prop where
 few : s.length ≤ 1000
 mem : ∀ i ∈ s, 0 ≤ i ∧ i < (L : Int)
theorem Selc.get {L : Nat} {s : List Int} (h : Selc L s) {j : Nat} (hj : j < s.length) : (s.getD j 0).toNat < L := by
 have := h.mem _ (getD_mem hj 0); omega
theorem row_get {C : Tabl} {i j : Nat} (hj : j < C.length) : (rowOf C i).getD j zVal = (C.getD j (0, [])).2.getD i zVal := map_getD (e := (0, [])) hj
noncomputable def EV (C : Tabl) (s : List Int) (e : Ex) : List Val := s.map fun i => ev (rowOf C i.toNat) e
end Go.Proofs.Tryz
