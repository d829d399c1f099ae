/- Law 40: the program's values agree with the reference's. -/
import Derived.Test.YtgfklnmckakclaaGreatDoorL40Like
import Derived.Test.YtgfklnmckakclaaGreatDoorL40Ev
import Derived.Test.YtgfklnmckakclaaGreatDoorL40EqW
set_option linter.unusedVariables false
set_option linter.unusedSimpArgs false
namespace Go.Proofs.Tryz
open Go.Eng

/-- A valid value whose parts are in range. -/
structure GV (v : Val) : Prop where
  valid : valid v = true
  lo : -9223372036854775808 ≤ v.int
  hi : v.int < 9223372036854775808
  bytes : ∀ b ∈ v.text, 0 ≤ b ∧ b < 256

theorem psgn_run (a b : Bool) : F151.run [PK.v Ty.bool, PK.v Ty.bool] [RK.v (Ty.int .i64)] 4000000 (a, b, ()) = some ((sgn a b, ()), ()) := by
  rw [F151_run]; unfold sgn; cases a <;> cases b <;> rfl
theorem valid_kind {v : Val} (h : valid v = true) : v.kind = 0 ∨ v.kind = 1 ∨ v.kind = 2 ∨ v.kind = 3 := by
  unfold valid at h
  split at h
  · exact .inl (by assumption)
  · split at h
    · exact .inr (.inl (by assumption))
    · split at h
      · exact .inr (.inr (.inl (by assumption)))
      · split at h
        · exact .inr (.inr (.inr (by assumption)))
        · cases h
theorem valid_null {v : Val} (h : valid v = true) (h0 : v.kind = 0) : v = zVal := by
  unfold valid at h
  rw [if_pos h0, Bool.and_eq_true, decide_eq_true_eq, decide_eq_true_eq] at h
  cases v
  simp only at h0 h
  rw [h0, h.1, h.2]; rfl
theorem valid_b2 {v : Val} (h : valid v = true) (h1 : v.kind = 1) : v = vbool false ∨ v = vbool true := by
  have := valid_bool h h1
  cases v
  simp only at h1 this
  rcases this with ⟨h2, h3 | h3⟩
  · left; rw [h1, h2, h3]; rfl
  · right; rw [h1, h2, h3]; rfl
theorem pcmp_run {a b : Val} (ha : valid a = true) (hb : valid b = true) : F141.run [PK.v (Ty.nm 0), PK.v (Ty.nm 0)] [RK.v (Ty.int .i64)] 4000000 (a, b, ()) = some ((vcmp a b, ()), ()) := by
  have h8 : F141c8 4000000 a b = some ((sgn (decide (a.int < b.int)) (decide (b.int < a.int)), ()), ()) := by
    rw [show F141c8 4000000 a b = _ from F141c8_eq 3999999 a b, bnd (psgn_run _ _)]
  rw [show F141.run [PK.v (Ty.nm 0), PK.v (Ty.nm 0)] [RK.v (Ty.int .i64)] 4000000 (a, b, ()) = _ from F141_run _ _ _, h8]
  unfold vcmp
  by_cases hk : a.kind = b.kind
  · rw [decide_eq_true hk, Bool.not_true, cf, cf]
    by_cases h3 : a.kind = 3
    · rw [cdt h3, cdt h3]; rfl
    rw [cdf h3, cdf h3]
    by_cases h1 : a.kind = 1
    · rw [cdt h1]
    rw [cdf h1]
    by_cases h2 : a.kind = 2
    · rw [cdt h2]
    rw [cdf h2]
    have h0 : a.kind = 0 := by rcases valid_kind ha with h | h | h | h <;> omega
    rw [valid_null ha h0, valid_null hb (by omega)]; rfl
  · rw [decide_eq_false hk, Bool.not_false, ct, ct, bnd (psgn_run _ _)]
theorem pbool_run (b : Bool) : F125.run [PK.v Ty.bool] [RK.v (Ty.nm 0)] 4000000 (b, ()) = some ((vbool b, ()), ()) := by
  rw [F125_run]; cases b <;> rfl
theorem ebool_run (b : Bool) : F119.run [PK.v Ty.bool] [RK.v (Ty.nm 0)] 4000000 (b, ()) = some ((vbool b, ()), ()) := by
  rw [F119_run]; cases b <;> rfl
theorem ptest_run {op : Int} {a b : Val} (ha : valid a = true) (hb : valid b = true) : F132.run [PK.v (Ty.int .i64), PK.v (Ty.nm 0), PK.v (Ty.nm 0)] [RK.v (Ty.nm 0)] 4000000 (op, a, b, ()) = some ((vtest op a b, ()), ()) := by
  have h18 : ∀ x, F132c18 3999999 x zVal = some ((vbool x, ()), ()) := fun x => by
    rw [show F132c18 3999999 x zVal = _ from F132c18_eq 3999998 x zVal, bnd (pbool_run _)]
  have h3 : F132c3 4000000 op a b zVal = some ((vbool (holdsC op (vcmp a b)), ()), ()) := by
    rw [show F132c3 4000000 op a b zVal = _ from F132c3_eq 3999999 op a b zVal, bnd (pcmp_run ha hb)]
    simp only [h18]
    unfold holdsC
    cases decide (op = 1) <;> cases decide (op = 2) <;> cases decide (op = 3) <;> cases decide (op = 4) <;> cases decide (op = 5) <;> cases decide (op = 6) <;> rfl
  rw [show F132.run [PK.v (Ty.int .i64), PK.v (Ty.nm 0), PK.v (Ty.nm 0)] [RK.v (Ty.nm 0)] 4000000 (op, a, b, ()) = _ from F132_run _ _ _ _, h3]
  unfold vtest
  cases decide (a.kind = 0) <;> cases decide (a.kind = b.kind) <;> cases decide (op < 1) <;> cases decide (6 < op) <;> rfl
theorem pand_run {l : List Val} (hl : l.length ≤ 1000000) (hv : ∀ v ∈ l, valid v = true) : F127.run [PK.v (Ty.nm 0).sl] [RK.v (Ty.nm 0)] 4000000 (l, ()) = some ((andL false l, ()), ()) := by
  have h : F138.run [PK.v (Ty.int .i64), PK.v (Ty.nm 0).sl] [RK.v (Ty.nm 0)] 4000000 (0, l, ()) = some ((andL false l, ()), ()) := by
    rw [F138_run]
    obtain ⟨r, e, rfl⟩ := loop (fun n i s => F138c3 n 0 s l (l.length : Nat) i zVal) l.length 1 0 (fun i s => andL s (l.drop i) = andL false l) (fun r => r = ((andL false l, ()), ()))
      (fun n s _ hs => ⟨((andL s [], ()), ()), by
        rw [F138c3_eq, cdf (by omega), bnd (pbool_run _), andL]; cases s <;> rfl, by rw [List.drop_length] at hs; rw [hs]⟩)
      (fun n i s hi hs => by
        have hvi := hv _ (getD_mem hi zVal)
        rw [drop_consV hi, andL] at hs
        rw [F138c3_eq, cdt (by omega), gd hi, Int.toNat_natCast, w1 (by omega)]
        by_cases h1 : (l.getD i zVal).kind = 1
        · rw [decide_eq_true h1, Bool.not_true, cf]
          rcases valid_b2 hvi h1 with h2 | h2
          · rw [h2] at hs ⊢
            exact .inr ⟨_, rfl, by rw [← hs]; rfl⟩
          · rw [h2] at hs ⊢
            exact .inl ⟨n, s, Nat.le_refl _, rfl, by rw [← hs]; cases s <;> rfl⟩
        · rw [decide_eq_false h1]
          refine .inl ⟨n, true, Nat.le_refl _, rfl, ?_⟩
          rw [← hs]
          unfold isF isT
          rw [decide_eq_false h1]; cases s <;> rfl) l.length 4000000 0 false (by omega) (by omega) (by omega) rfl
    exact e
  rw [F127_run, bnd h]
theorem por_run {l : List Val} (hl : l.length ≤ 1000000) (hv : ∀ v ∈ l, valid v = true) : F128.run [PK.v (Ty.nm 0).sl] [RK.v (Ty.nm 0)] 4000000 (l, ()) = some ((orL false l, ()), ()) := by
  have h : F138.run [PK.v (Ty.int .i64), PK.v (Ty.nm 0).sl] [RK.v (Ty.nm 0)] 4000000 (1, l, ()) = some ((orL false l, ()), ()) := by
    rw [F138_run]
    obtain ⟨r, e, rfl⟩ := loop (fun n i s => F138c3 n 1 s l (l.length : Nat) i zVal) l.length 1 0 (fun i s => orL s (l.drop i) = orL false l) (fun r => r = ((orL false l, ()), ()))
      (fun n s _ hs => ⟨((orL s [], ()), ()), by
        rw [F138c3_eq, cdf (by omega), bnd (pbool_run _), orL]; cases s <;> rfl, by rw [List.drop_length] at hs; rw [hs]⟩)
      (fun n i s hi hs => by
        have hvi := hv _ (getD_mem hi zVal)
        rw [drop_consV hi, orL] at hs
        rw [F138c3_eq, cdt (by omega), gd hi, Int.toNat_natCast, w1 (by omega)]
        by_cases h1 : (l.getD i zVal).kind = 1
        · rw [decide_eq_true h1, Bool.not_true, cf]
          rcases valid_b2 hvi h1 with h2 | h2
          · rw [h2] at hs ⊢
            exact .inl ⟨n, s, Nat.le_refl _, rfl, by rw [← hs]; cases s <;> rfl⟩
          · rw [h2] at hs ⊢
            exact .inr ⟨_, rfl, by rw [← hs]; rfl⟩
        · rw [decide_eq_false h1]
          refine .inl ⟨n, true, Nat.le_refl _, rfl, ?_⟩
          rw [← hs]
          unfold isF isT
          rw [decide_eq_false h1]; cases s <;> rfl) l.length 4000000 0 false (by omega) (by omega) (by omega) rfl
    exact e
  rw [F128_run, bnd h]
theorem pint_run (n : Int) : F126.run [PK.v (Ty.int .i64)] [RK.v (Ty.nm 0)] 4000000 (n, ()) = some ((intV n, ()), ()) := F126_run _ _
theorem pnot_run (v : Val) : F117.run [PK.v (Ty.nm 0)] [RK.v (Ty.nm 0)] 4000000 (v, ()) = some ((vNot v, ()), ()) := by
  rw [F117_run, bnd (pbool_run _)]; unfold vNot; cases decide (v.kind = 1) <;> rfl
theorem pneg_run (v : Val) : F118.run [PK.v (Ty.nm 0)] [RK.v (Ty.nm 0)] 4000000 (v, ()) = some ((vNeg v, ()), ()) := by
  rw [F118_run, bnd (pint_run _)]; unfold vNeg; cases decide (v.kind = 2) <;> cases decide (v.int = -9223372036854775808) <;> rfl
theorem pisT_run (v : Val) : F137.run [PK.v (Ty.nm 0)] [RK.v Ty.bool] 4000000 (v, ()) = some ((isT v, ()), ()) := by
  rw [F137_run]; unfold isT; cases decide (v.kind = 1) <;> rfl
theorem pat_run (r : List Val) (i : Int) : F114.run [PK.v (Ty.nm 0).sl, PK.v (Ty.int .i64)] [RK.v (Ty.nm 0)] 4000000 (r, i, ()) = some ((atV r i, ()), ()) := by
  rw [F114_run]; unfold atV
  by_cases h : i < 0
  · rw [cdt h, cdt h]
  · rw [cdf h, cdf h]
    by_cases h2 : (r.length : Int) ≤ i
    · rw [cdt h2, cdt h2]
    · rw [cdf h2, cdf h2, if_pos (by omega), if_pos (by omega)]
theorem pconcat_run {a b : Val} (ha : a.text.length ≤ 1000000) (hb : b.text.length ≤ 1000000) : F129.run [PK.v (Ty.nm 0), PK.v (Ty.nm 0)] [RK.v (Ty.nm 0)] 4000000 (a, b, ()) = some ((vConcat a b, ()), ()) := by
  rw [show F129.run [PK.v (Ty.nm 0), PK.v (Ty.nm 0)] [RK.v (Ty.nm 0)] 4000000 (a, b, ()) = _ from F129_run _ _ _, show F129c3 4000000 a b zVal = _ from F129c3_eq 3999999 a b zVal, if_pos (by unfold lim; omega), wrap64_id (by omega) (by omega),
    show decide ((4096 : Int) < (a.text.length : Int) + (b.text.length : Int)) = decide (4096 < a.text.length + b.text.length) by rw [decide_eq_decide]; omega]
  unfold vConcat
  cases decide (a.kind = 3) <;> cases decide (b.kind = 3) <;> cases decide (4096 < a.text.length + b.text.length) <;> rfl
theorem plike_run {a b : Val} (ha : a.text.length ≤ 4096) (hb : b.text.length ≤ 4096) : F130.run [PK.v (Ty.nm 0), PK.v (Ty.nm 0)] [RK.v (Ty.nm 0)] 4000000 (a, b, ()) = some ((vLike a b, ()), ()) := by
  rw [show F130.run [PK.v (Ty.nm 0), PK.v (Ty.nm 0)] [RK.v (Ty.nm 0)] 4000000 (a, b, ()) = _ from F130_run _ _ _, show F130c3 4000000 a b zVal = _ from F130c3_eq 3999999 a b zVal, bnd (like_run hb ha)]
  simp only []
  rw [bnd (ebool_run _)]
  unfold vLike
  cases decide (a.kind = 3) <;> cases decide (b.kind = 3) <;> rfl

/-! ## Numbers -/
theorem wrap_hi {z : Int} (h1 : 9223372036854775808 ≤ z) (h2 : z < 27670116110564327424) : IntKind.i64.wrap z = z - 18446744073709551616 := by
  simp only [IntKind.wrap]
  first
    | omega
    | (simp [IntKind.bits, IntKind.signed]; omega)
theorem wrap_lo {z : Int} (h1 : -27670116110564327424 ≤ z) (h2 : z < -9223372036854775808) : IntKind.i64.wrap z = z + 18446744073709551616 := by
  simp only [IntKind.wrap]
  first
    | omega
    | (simp [IntKind.bits, IntKind.signed]; omega)
theorem uwrap (z : Int) : IntKind.u64.wrap z = z % 18446744073709551616 := by
  simp only [IntKind.wrap]
  first
    | omega
    | (simp [IntKind.bits, IntKind.signed] <;> omega)
theorem add_ok {a b : Int} (ha : -9223372036854775808 ≤ a) (ha' : a < 9223372036854775808) (hb : -9223372036854775808 ≤ b) (hb' : b < 9223372036854775808) :
    decide (decide (a < IntKind.i64.wrap (a + b)) = decide (0 < b)) = !((decide (0 < b) && decide (IntKind.i64.wrap (9223372036854775807 - b) < a)) || (decide (b < 0) && decide (a < IntKind.i64.wrap (-9223372036854775808 - b)))) := by
  rcases Int.lt_trichotomy b 0 with h | h | h
  · rw [decide_eq_false (show ¬ 0 < b by omega), decide_eq_true h, wrap64_id (z := -9223372036854775808 - b) (by omega) (by omega)]
    by_cases ho : a + b < -9223372036854775808
    · rw [wrap_lo (by omega) ho, decide_eq_true (show a < a + b + 18446744073709551616 by omega), decide_eq_true (show a < -9223372036854775808 - b by omega)]; rfl
    · rw [wrap64_id (by omega) (by omega), decide_eq_false (show ¬ a < a + b by omega), decide_eq_false (show ¬ a < -9223372036854775808 - b by omega)]; rfl
  · subst h
    rw [Int.add_zero, wrap64_id (z := a) ha ha', decide_eq_false (Int.lt_irrefl a)]; rfl
  · rw [decide_eq_true h, decide_eq_false (show ¬ b < 0 by omega), wrap64_id (z := 9223372036854775807 - b) (by omega) (by omega)]
    by_cases ho : 9223372036854775808 ≤ a + b
    · rw [wrap_hi ho (by omega), decide_eq_false (show ¬ a < a + b - 18446744073709551616 by omega), decide_eq_true (show 9223372036854775807 - b < a by omega)]; rfl
    · rw [wrap64_id (by omega) (by omega), decide_eq_true (show a < a + b by omega), decide_eq_false (show ¬ 9223372036854775807 - b < a by omega)]; rfl
theorem sub_ok {a b : Int} (ha : -9223372036854775808 ≤ a) (ha' : a < 9223372036854775808) (hb : -9223372036854775808 ≤ b) (hb' : b < 9223372036854775808) :
    decide (decide (IntKind.i64.wrap (a - b) < a) = decide (0 < b)) = !((decide (b < 0) && decide (IntKind.i64.wrap (9223372036854775807 + b) < a)) || (decide (0 < b) && decide (a < IntKind.i64.wrap (-9223372036854775808 + b)))) := by
  rcases Int.lt_trichotomy b 0 with h | h | h
  · rw [decide_eq_false (show ¬ 0 < b by omega), decide_eq_true h, wrap64_id (z := 9223372036854775807 + b) (by omega) (by omega)]
    by_cases ho : 9223372036854775808 ≤ a - b
    · rw [wrap_hi ho (by omega), decide_eq_true (show a - b - 18446744073709551616 < a by omega), decide_eq_true (show 9223372036854775807 + b < a by omega)]; rfl
    · rw [wrap64_id (by omega) (by omega), decide_eq_false (show ¬ a - b < a by omega), decide_eq_false (show ¬ 9223372036854775807 + b < a by omega)]; rfl
  · subst h
    rw [Int.sub_zero, wrap64_id (z := a) ha ha', decide_eq_false (Int.lt_irrefl a)]; rfl
  · rw [decide_eq_true h, decide_eq_false (show ¬ b < 0 by omega), wrap64_id (z := -9223372036854775808 + b) (by omega) (by omega)]
    by_cases ho : a - b < -9223372036854775808
    · rw [wrap_lo (by omega) ho, decide_eq_false (show ¬ a - b + 18446744073709551616 < a by omega), decide_eq_true (show a < -9223372036854775808 + b by omega)]; rfl
    · rw [wrap64_id (by omega) (by omega), decide_eq_true (show a - b < a by omega), decide_eq_false (show ¬ a < -9223372036854775808 + b by omega)]; rfl
end Go.Proofs.Tryz
