/- Law 42: the program's values agree with the reference's. -/
import Derived.Test.YtlkllggdiakpbaaGreatDoorL42Like
import Derived.Test.YtlkllggdiakpbaaGreatDoorL42Ev
import Derived.Test.YtlkllggdiakpbaaGreatDoorL42Eqs
set_option linter.unusedVariables false
set_option linter.unusedSimpArgs false
namespace Go.Proofs.Tryz
open Go.Eng
structure GV (v : Val) : Prop where
 valid : valid v = true
 lo : -9223372036854775808 ≤ v.int
 hi : v.int < 9223372036854775808
 bytes : ∀ b ∈ v.text, 0 ≤ b ∧ b < 256
theorem psgn_run (a b : Bool) : F117.run [PK.v Ty.bool, PK.v Ty.bool] [RK.v (Ty.int .i64)] 4000000 (a, b, ()) = some ((sgn a b, ()), ()) := by
 rw [F117_run]; unfold sgn; cases a <;> cases b <;> rfl
theorem valid_kind {v : Val} (h : valid v = true) : v.kind = 0 ∨ v.kind = 1 ∨ v.kind = 2 ∨ v.kind = 3 := by
 unfold valid at h
 split at h
 ·exact .inl (by assumption)
 ·split at h
  ·exact .inr (.inl (by assumption))
  ·split at h
   ·exact .inr (.inr (.inl (by assumption)))
   ·split at h
    ·exact .inr (.inr (.inr (by assumption)))
    ·cases h
theorem valid_null {v : Val} (h : valid v = true) (h0 : v.kind = 0) : v = zVal := by
 unfold valid at h
 rw [if_pos h0, Bool.and_eq_true, decide_eq_true_eq, decide_eq_true_eq] at h
 cases v
 simp only at h0 h
 rw [h0, h.1, h.2]; rfl
theorem valid_b2 {v : Val} (h : valid v = true) (h1 : v.kind = 1) : v = vbool false ∨ v = vbool true := by
 have := valid_bool h h1
 cases v
 simp only at h1 this
 rcases this with ⟨h2, h3 | h3⟩
 ·left; rw [h1, h2, h3]; rfl
 ·right; rw [h1, h2, h3]; rfl
theorem pcmp_run {a b : Val} (ha : valid a = true) (hb : valid b = true) : F81.run [PK.v (Ty.nm 0), PK.v (Ty.nm 0)] [RK.v (Ty.int .i64)] 4000000 (a, b, ()) = some ((vcmp a b, ()), ()) := by
 have h8 : F81c8 4000000 a b = some ((sgn (decide (a.int < b.int)) (decide (b.int < a.int)), ()), ()) := by
  rw [show F81c8 4000000 a b = _ from F81c8_eq 3999999 a b, bnd (psgn_run _ _)]
 rw [show F81.run [PK.v (Ty.nm 0), PK.v (Ty.nm 0)] [RK.v (Ty.int .i64)] 4000000 (a, b, ()) = _ from F81_run _ _ _, h8]
 unfold vcmp
 by_cases hk : a.kind = b.kind
 ·rw [decide_eq_true hk, Bool.not_true, cf, cf]
  by_cases h3 : a.kind = 3
  ·rw [cdt h3, cdt h3]; rfl
  rw [cdf h3, cdf h3]
  by_cases h1 : a.kind = 1
  ·rw [cdt h1]
  rw [cdf h1]
  by_cases h2 : a.kind = 2
  ·rw [cdt h2]
  rw [cdf h2]
  have h0 : a.kind = 0 := by rcases valid_kind ha with h | h | h | h <;> omega
  rw [valid_null ha h0, valid_null hb (by omega)]; rfl
 ·rw [decide_eq_false hk, Bool.not_false, ct, ct, bnd (psgn_run _ _)]
/-! ## Numbers -/
end Go.Proofs.Tryz
