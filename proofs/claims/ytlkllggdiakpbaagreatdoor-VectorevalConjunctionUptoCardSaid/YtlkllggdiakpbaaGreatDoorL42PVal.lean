/- Law 42: the program's values agree with the reference's. -/
import Derived.Test.YtlkllggdiakpbaaGreatDoorL42Like
import Derived.Test.YtlkllggdiakpbaaGreatDoorL42Ev
import Derived.Test.YtlkllggdiakpbaaGreatDoorL42Eqs
set_option linter.unusedVariables false
set_option linter.unusedSimpArgs false
namespace Go.Proofs.Tryz
open Go.Eng
structure GV (v : Val) : Prop where
 valid : valid v = true
 lo : -9223372036854775808 ≤ v.int
 hi : v.int < 9223372036854775808
 bytes : ∀ b ∈ v.text, 0 ≤ b ∧ b < 256
theorem psgn_run (a b : Bool) : F117.run [PK.v Ty.bool, PK.v Ty.bool] [RK.v (Ty.int .i64)] 4000000 (a, b, ()) = some ((sgn a b, ()), ()) := by
 rw [F117_run]; unfold sgn; cases a <;> cases b <;> rfl
theorem valid_kind {v : Val} (h : valid v = true) : v.kind = 0 ∨ v.kind = 1 ∨ v.kind = 2 ∨ v.kind = 3 := by
 unfold valid at h
 split at h
 ·exact .inl (by assumption)
 ·split at h
  ·exact .inr (.inl (by assumption))
  ·split at h
   ·exact .inr (.inr (.inl (by assumption)))
   ·split at h
    ·exact .inr (.inr (.inr (by assumption)))
    ·cases h
theorem valid_null {v : Val} (h : valid v = true) (h0 : v.kind = 0) : v = zVal := by
 unfold valid at h
 rw [if_pos h0, Bool.and_eq_true, decide_eq_true_eq, decide_eq_true_eq] at h
 cases v
 simp only at h0 h
 rw [h0, h.1, h.2]; rfl
theorem valid_b2 {v : Val} (h : valid v = true) (h1 : v.kind = 1) : v = vbool false ∨ v = vbool true := by
 have := valid_bool h h1
 cases v
 simp only at h1 this
 rcases this with ⟨h2, h3 | h3⟩
 ·left; rw [h1, h2, h3]; rfl
 ·right; rw [h1, h2, h3]; rfl
theorem pcmp_run {a b : Val} (ha : valid a = true) (hb : valid b = true) : F81.run [PK.v (Ty.nm 0), PK.v (Ty.nm 0)] [RK.v (Ty.int .i64)] 4000000 (a, b, ()) = some ((vcmp a b, ()), ()) := by
 have h8 : F81c8 4000000 a b = some ((sgn (decide (a.int < b.int)) (decide (b.int < a.int)), ()), ()) := by
  rw [show F81c8 4000000 a b = _ from F81c8_eq 3999999 a b, bnd (psgn_run _ _)]
 rw [show F81.run [PK.v (Ty.nm 0), PK.v (Ty.nm 0)] [RK.v (Ty.int .i64)] 4000000 (a, b, ()) = _ from F81_run _ _ _, h8]
 unfold vcmp
 by_cases hk : a.kind = b.kind
 ·rw [decide_eq_true hk, Bool.not_true, cf, cf]
  by_cases h3 : a.kind = 3
  ·rw [cdt h3, cdt h3]; rfl
  rw [cdf h3, cdf h3]
  by_cases h1 : a.kind = 1
  ·rw [cdt h1]
  rw [cdf h1]
  by_cases h2 : a.kind = 2
  ·rw [cdt h2]
  rw [cdf h2]
  have h0 : a.kind = 0 := by rcases valid_kind ha with h | h | h | h <;> omega
  rw [valid_null ha h0, valid_null hb (by omega)]; rfl
 ·rw [decide_eq_false hk, Bool.not_false, ct, ct, bnd (psgn_run _ _)]
theorem pbool_run (b : Bool) : F155.run [PK.v Ty.bool] [RK.v (Ty.nm 0)] 4000000 (b, ()) = some ((vbool b, ()), ()) := by
 rw [F155_run]; cases b <;> rfl
theorem ptest_run {op : Int} {a b : Val} (ha : valid a = true) (hb : valid b = true) : F132.run [PK.v (Ty.int .i64), PK.v (Ty.nm 0), PK.v (Ty.nm 0)] [RK.v (Ty.nm 0)] 4000000 (op, a, b, ()) = some ((vtest op a b, ()), ()) := by
 have h18 : ∀ x, F132c18 3999999 x zVal = some ((vbool x, ()), ()) := fun x => by
  rw [show F132c18 3999999 x zVal = _ from F132c18_eq 3999998 x zVal, bnd (pbool_run _)]
 have h3 : F132c3 4000000 op a b zVal = some ((vbool (holdsC op (vcmp a b)), ()), ()) := by
  rw [show F132c3 4000000 op a b zVal = _ from F132c3_eq 3999999 op a b zVal, bnd (pcmp_run ha hb)]
  simp only [h18]
  unfold holdsC
  cases decide (op = 1) <;> cases decide (op = 2) <;> cases decide (op = 3) <;> cases decide (op = 4) <;> cases decide (op = 5) <;> cases decide (op = 6) <;> rfl
 rw [show F132.run [PK.v (Ty.int .i64), PK.v (Ty.nm 0), PK.v (Ty.nm 0)] [RK.v (Ty.nm 0)] 4000000 (op, a, b, ()) = _ from F132_run _ _ _ _, h3]
 unfold vtest
 cases decide (a.kind = 0) <;> cases decide (a.kind = b.kind) <;> cases decide (op < 1) <;> cases decide (6 < op) <;> rfl
theorem pint_run (n : Int) : F91.run [PK.v (Ty.int .i64)] [RK.v (Ty.nm 0)] 4000000 (n, ()) = some ((intV n, ()), ()) := F91_run _ _
theorem pneg_run (v : Val) : F56.run [PK.v (Ty.nm 0)] [RK.v (Ty.nm 0)] 4000000 (v, ()) = some ((vNeg v, ()), ()) := by
 rw [F56_run, bnd (pint_run _)]; unfold vNeg; cases decide (v.kind = 2) <;> cases decide (v.int = -9223372036854775808) <;> rfl
theorem pconcat_run {a b : Val} (ha : a.text.length ≤ 1000000) (hb : b.text.length ≤ 1000000) : F97.run [PK.v (Ty.nm 0), PK.v (Ty.nm 0)] [RK.v (Ty.nm 0)] 4000000 (a, b, ()) = some ((vConcat a b, ()), ()) := by
 rw [show F97.run [PK.v (Ty.nm 0), PK.v (Ty.nm 0)] [RK.v (Ty.nm 0)] 4000000 (a, b, ()) = _ from F97_run _ _ _, show F97c3 4000000 a b zVal = _ from F97c3_eq 3999999 a b zVal, if_pos (by unfold lim; omega), wrap64_id (by omega) (by omega),
  show decide ((4096 : Int) < (a.text.length : Int) + (b.text.length : Int)) = decide (4096 < a.text.length + b.text.length) by rw [decide_eq_decide]; omega]
 unfold vConcat
 cases decide (a.kind = 3) <;> cases decide (b.kind = 3) <;> cases decide (4096 < a.text.length + b.text.length) <;> rfl
/-! ## Numbers -/
theorem wrap_hi {z : Int} (h1 : 9223372036854775808 ≤ z) (h2 : z < 27670116110564327424) : IntKind.i64.wrap z = z - 18446744073709551616 := by
 simp only [IntKind.wrap]
 first
  | omega
  | (simp [IntKind.bits, IntKind.signed]; omega)
theorem wrap_lo {z : Int} (h1 : -27670116110564327424 ≤ z) (h2 : z < -9223372036854775808) : IntKind.i64.wrap z = z + 18446744073709551616 := by
 simp only [IntKind.wrap]
 first
  | omega
  | (simp [IntKind.bits, IntKind.signed]; omega)
theorem uwrap (z : Int) : IntKind.u64.wrap z = z % 18446744073709551616 := by
 simp only [IntKind.wrap]
 first
  | omega
  | (simp [IntKind.bits, IntKind.signed] <;> omega)
theorem add_ok {a b : Int} (ha : -9223372036854775808 ≤ a) (ha' : a < 9223372036854775808) (hb : -9223372036854775808 ≤ b) (hb' : b < 9223372036854775808) :
  decide (decide (a < IntKind.i64.wrap (a + b)) = decide (0 < b)) = !((decide (0 < b) && decide (IntKind.i64.wrap (9223372036854775807 - b) < a)) || (decide (b < 0) && decide (a < IntKind.i64.wrap (-9223372036854775808 - b)))) := by
 rcases Int.lt_trichotomy b 0 with h | h | h
 ·rw [decide_eq_false (show ¬ 0 < b by omega), decide_eq_true h, wrap64_id (z := -9223372036854775808 - b) (by omega) (by omega)]
  by_cases ho : a + b < -9223372036854775808
  ·rw [wrap_lo (by omega) ho, decide_eq_true (show a < a + b + 18446744073709551616 by omega), decide_eq_true (show a < -9223372036854775808 - b by omega)]; rfl
  ·rw [wrap64_id (by omega) (by omega), decide_eq_false (show ¬ a < a + b by omega), decide_eq_false (show ¬ a < -9223372036854775808 - b by omega)]; rfl
 ·subst h
  rw [Int.add_zero, wrap64_id (z := a) ha ha', decide_eq_false (Int.lt_irrefl a)]; rfl
 ·rw [decide_eq_true h, decide_eq_false (show ¬ b < 0 by omega), wrap64_id (z := 9223372036854775807 - b) (by omega) (by omega)]
  by_cases ho : 9223372036854775808 ≤ a + b
  ·rw [wrap_hi ho (by omega), decide_eq_false (show ¬ a < a + b - 18446744073709551616 by omega), decide_eq_true (show 9223372036854775807 - b < a by omega)]; rfl
  ·rw [wrap64_id (by omega) (by omega), decide_eq_true (show a < a + b by omega), decide_eq_false (show ¬ 9223372036854775807 - b < a by omega)]; rfl
theorem sub_ok {a b : Int} (ha : -9223372036854775808 ≤ a) (ha' : a < 9223372036854775808) (hb : -9223372036854775808 ≤ b) (hb' : b < 9223372036854775808) :
  decide (decide (IntKind.i64.wrap (a - b) < a) = decide (0 < b)) = !((decide (b < 0) && decide (IntKind.i64.wrap (9223372036854775807 + b) < a)) || (decide (0 < b) && decide (a < IntKind.i64.wrap (-9223372036854775808 + b)))) := by
 rcases Int.lt_trichotomy b 0 with h | h | h
 ·rw [decide_eq_false (show ¬ 0 < b by omega), decide_eq_true h, wrap64_id (z := 9223372036854775807 + b) (by omega) (by omega)]
  by_cases ho : 9223372036854775808 ≤ a - b
  ·rw [wrap_hi ho (by omega), decide_eq_true (show a - b - 18446744073709551616 < a by omega), decide_eq_true (show 9223372036854775807 + b < a by omega)]; rfl
  ·rw [wrap64_id (by omega) (by omega), decide_eq_false (show ¬ a - b < a by omega), decide_eq_false (show ¬ 9223372036854775807 + b < a by omega)]; rfl
 ·subst h
  rw [Int.sub_zero, wrap64_id (z := a) ha ha', decide_eq_false (Int.lt_irrefl a)]; rfl
 ·rw [decide_eq_true h, decide_eq_false (show ¬ b < 0 by omega), wrap64_id (z := -9223372036854775808 + b) (by omega) (by omega)]
  by_cases ho : a - b < -9223372036854775808
  ·rw [wrap_lo (by omega) ho, decide_eq_false (show ¬ a - b + 18446744073709551616 < a by omega), decide_eq_true (show a < -9223372036854775808 + b by omega)]; rfl
  ·rw [wrap64_id (by omega) (by omega), decide_eq_true (show a - b < a by omega), decide_eq_false (show ¬ a < -9223372036854775808 + b by omega)]; rfl
end Go.Proofs.Tryz
