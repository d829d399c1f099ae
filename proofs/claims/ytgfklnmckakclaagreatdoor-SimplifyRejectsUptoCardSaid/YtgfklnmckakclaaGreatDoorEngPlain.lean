/- Plain facts that the laws' own proofs use: wrapping, indices, counts. -/
import Derived.Test.YtgfklnmckakclaaGreatDoorEngLaw
set_option linter.unusedVariables false
set_option linter.unusedSimpArgs false
namespace Go.Eng

theorem wrap64_id {z : Int} (h1 : -9223372036854775808 ≤ z) (h2 : z < 9223372036854775808) : IntKind.i64.wrap z = z := by
  simp only [IntKind.wrap]
  first
    | omega
    | (simp [IntKind.bits, IntKind.signed]; omega)
    | (rw [Int.bmod_eq_of_le] <;> omega)

end Go.Eng
