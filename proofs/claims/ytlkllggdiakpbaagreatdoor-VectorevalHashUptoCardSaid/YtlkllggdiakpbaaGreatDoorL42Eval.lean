/- Law 42: the evaluation over a scope is the evaluation row by row. -/
import Derived.Test.YtlkllggdiakpbaaGreatDoorL42Case2
set_option linter.unusedVariables false
set_option linter.unusedSimpArgs false
namespace Go.Proofs.Tryz
open Go.Eng
def upN (n : Nat) : List Int := (List.range n).map Int.ofNat
theorem upN_len (n : Nat) : (upN n).length = n := by simp [upN]
theorem upN_succ (n : Nat) : upN (n + 1) = upN n ++ [(n : Int)] := by unfold upN; rw [List.range_succ, List.map_append]; rfl
theorem mem_upN {n : Nat} {x : Int} : x ∈ upN n ↔ 0 ≤ x ∧ x < (n : Int) := by
 unfold upN
 rw [List.mem_map]
 constructor
 ·rintro ⟨j, hj, rfl⟩
  have := List.mem_range.1 hj
  exact ⟨Int.natCast_nonneg _, Int.ofNat_lt.2 this⟩
 ·intro ⟨h1, h2⟩
  exact ⟨x.toNat, List.mem_range.2 (by omega), by show ((x.toNat : Nat) : Int) = x; omega⟩
end Go.Proofs.Tryz
