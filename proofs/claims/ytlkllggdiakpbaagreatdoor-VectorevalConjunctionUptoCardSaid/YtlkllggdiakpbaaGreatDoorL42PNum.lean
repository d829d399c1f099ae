/- Law 42: products, arithmetic, membership as the program computes them. -/
import Derived.Test.YtlkllggdiakpbaaGreatDoorL42PVal
import Derived.Test.YtlkllggdiakpbaaGreatDoorEngine4
set_option linter.unusedVariables false
set_option linter.unusedSimpArgs false
namespace Go.Proofs.Tryz
open Go.Eng
theorem wrap_rng (z : Int) : -9223372036854775808 ≤ IntKind.i64.wrap z ∧ IntKind.i64.wrap z < 9223372036854775808 := by
 simp only [IntKind.wrap]
 first
  | omega
  | (simp [IntKind.bits, IntKind.signed] <;> omega)
theorem mask32 {a : Int} (h1 : 0 ≤ a) (h2 : a < 18446744073709551616) : bits BinOp.and IntKind.u64 a 4294967295 = a % 4294967296 := by
 obtain ⟨n, rfl⟩ := Int.eq_ofNat_of_zero_le h1
 have := and_ones_u64 (a := n) (k := 32) (by omega) (by omega)
 rw [show ((2 ^ 32 - 1 : Nat) : Int) = 4294967295 from rfl] at this
 rw [this]
 rfl
theorem mul64 {a b : Int} (ha : 0 ≤ a) (ha' : a < 18446744073709551616) (hb : 0 ≤ b) (hb' : b < 18446744073709551616) :
  F147.run [PK.v (Ty.int .u64), PK.v (Ty.int .u64)] [RK.v (Ty.int .u64), RK.v (Ty.int .u64)] 4000000 (a, b, ()) = some ((a * b / 18446744073709551616, a * b % 18446744073709551616, ()), ()) := by
 rw [F147_run, show (2 : Int) ^ min (Int.toNat 32) IntKind.u64.bits = 4294967296 from rfl]
 simp only [uwrap]
 rw [mask32 ha ha', mask32 hb hb']
 have hx : a = a / 4294967296 * 4294967296 + a % 4294967296 := by omega
 have hy : b = b / 4294967296 * 4294967296 + b % 4294967296 := by omega
 have b1 : 0 ≤ a / 4294967296 := by omega
 have b2 : a / 4294967296 ≤ 4294967295 := by omega
 have b3 : 0 ≤ b / 4294967296 := by omega
 have b4 : b / 4294967296 ≤ 4294967295 := by omega
 have b5 : 0 ≤ a % 4294967296 := by omega
 have b6 : a % 4294967296 ≤ 4294967295 := by omega
 have b7 : 0 ≤ b % 4294967296 := by omega
 have b8 : b % 4294967296 ≤ 4294967295 := by omega
 generalize a / 4294967296 = x1 at *
 generalize a % 4294967296 = x0 at *
 generalize b / 4294967296 = y1 at *
 generalize b % 4294967296 = y0 at *
 have hab : a * b = x1 * y1 * 18446744073709551616 + (x1 * y0 + x0 * y1) * 4294967296 + x0 * y0 := by
  rw [hx, hy]
  simp only [Int.add_mul, Int.mul_add]
  have e1 : x1 * 4294967296 * (y1 * 4294967296) = x1 * y1 * 18446744073709551616 := by
   rw [Int.mul_assoc, Int.mul_comm 4294967296 (y1 * 4294967296), Int.mul_assoc y1, ← Int.mul_assoc x1]; rfl
  have e2 : x0 * (y1 * 4294967296) = x0 * y1 * 4294967296 := by rw [Int.mul_assoc]
  have e3 : x1 * 4294967296 * y0 = x1 * y0 * 4294967296 := by rw [Int.mul_assoc, Int.mul_comm 4294967296 y0, ← Int.mul_assoc]
  rw [e1, e2, e3]
  omega
 have p : ∀ u v : Int, 0 ≤ u → u ≤ 4294967295 → 0 ≤ v → v ≤ 4294967295 → 0 ≤ u * v ∧ u * v ≤ 18446744065119617025 := fun u v h1 h2 h3 h4 =>
  ⟨Int.mul_nonneg h1 h3, by
   have := Int.mul_le_mul h2 h4 h3 (by omega : (0 : Int) ≤ 4294967295)
   omega⟩
 have q11 := p x1 y1 b1 b2 b3 b4
 have q10 := p x1 y0 b1 b2 b7 b8
 have q01 := p x0 y1 b5 b6 b3 b4
 have q00 := p x0 y0 b5 b6 b7 b8
 generalize x1 * y1 = p11 at *
 generalize x1 * y0 = p10 at *
 generalize x0 * y1 = p01 at *
 generalize x0 * y0 = p00 at *
 have e1 : p11 % 18446744073709551616 = p11 := Int.emod_eq_of_lt q11.1 (by omega)
 have e2 : p10 % 18446744073709551616 = p10 := Int.emod_eq_of_lt q10.1 (by omega)
 have e3 : p01 % 18446744073709551616 = p01 := Int.emod_eq_of_lt q01.1 (by omega)
 have e4 : p00 % 18446744073709551616 = p00 := Int.emod_eq_of_lt q00.1 (by omega)
 rw [e1, e2, e3, e4]
 have e5 : (p10 + p00 / 4294967296) % 18446744073709551616 = p10 + p00 / 4294967296 := Int.emod_eq_of_lt (by omega) (by omega)
 rw [e5, mask32 (by omega) (by omega)]
 have e6 : ((p10 + p00 / 4294967296) % 4294967296 + p01) % 18446744073709551616 = (p10 + p00 / 4294967296) % 4294967296 + p01 := Int.emod_eq_of_lt (by omega) (by omega)
 rw [e6, hab]
 have hhi : ((p11 + (p10 + p00 / 4294967296) / 4294967296) % 18446744073709551616 + ((p10 + p00 / 4294967296) % 4294967296 + p01) / 4294967296) % 18446744073709551616 = (p11 * 18446744073709551616 + (p10 + p01) * 4294967296 + p00) / 18446744073709551616 := by omega
 rw [hhi]
end Go.Proofs.Tryz
