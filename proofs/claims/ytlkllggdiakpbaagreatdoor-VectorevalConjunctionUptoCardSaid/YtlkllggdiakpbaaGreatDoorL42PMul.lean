/- Law 42: products and arithmetic as the program computes them. -/
import Derived.Test.YtlkllggdiakpbaaGreatDoorL42PNum
set_option linter.unusedVariables false
set_option linter.unusedSimpArgs false
namespace Go.Proofs.Tryz
open Go.Eng
def inR (z : Int) : Prop := -9223372036854775808 ≤ z ∧ z < 9223372036854775808
instance (z : Int) : Decidable (inR z) := inferInstanceAs (Decidable (_ ∧ _))
theorem tdiv_small {w b : Int} (hw : inR w) (hb : b ≠ 0) (hb1 : b ≠ -1) (hb2 : b ≠ 1) : -4611686018427387904 ≤ w.tdiv b ∧ w.tdiv b ≤ 4611686018427387904 := by
 have h1 : (w.tdiv b).natAbs = w.natAbs / b.natAbs := Int.natAbs_tdiv _ _
 have h2 : w.natAbs / b.natAbs ≤ w.natAbs / 2 := Nat.div_le_div_left (by omega) (by omega)
 unfold inR at hw
 omega
theorem tmod_lt {w b : Int} (hb : b ≠ 0) : (w.tmod b).natAbs < b.natAbs := by
 rw [Int.natAbs_tmod]; exact Nat.mod_lt _ (by omega)
theorem mulV_spec {a b : Int} (ha : inR a) (hb : inR b) : (mulV a b).2 = decide (inR (a * b)) ∧ (inR (a * b) → (mulV a b).1 = a * b) := by
 have ha' := ha
 have hb' := hb
 unfold inR at ha hb
 unfold mulV
 by_cases h0 : a = 0
 ·subst h0
  rw [decide_eq_true rfl, Bool.true_or, ct, Int.zero_mul]; exact ⟨rfl, fun _ => rfl⟩
 by_cases h1 : b = 0
 ·subst h1
  rw [decide_eq_true rfl, Bool.or_true, ct, Int.mul_zero]; exact ⟨rfl, fun _ => rfl⟩
 rw [decide_eq_false h0, decide_eq_false h1, Bool.false_or, cf]
 by_cases h2 : a = -1
 ·subst h2
  rw [decide_eq_true rfl, ct, Int.neg_one_mul]
  refine ⟨?_, fun h => ?_⟩
  ·show (!decide (b = -9223372036854775808)) = _
   by_cases hm : b = -9223372036854775808
   ·rw [decide_eq_true hm, decide_eq_false (by unfold inR; omega)]; rfl
   ·rw [decide_eq_false hm, decide_eq_true (by unfold inR; omega)]; rfl
  ·show IntKind.i64.wrap (0 - b) = _
   unfold inR at h
   rw [wrap64_id (by omega) (by omega)]; omega
 rw [decide_eq_false h2, cf]
 by_cases h3 : b = -1
 ·subst h3
  rw [decide_eq_true rfl, ct, Int.mul_neg_one]
  refine ⟨?_, fun h => ?_⟩
  ·show (!decide (a = -9223372036854775808)) = _
   by_cases hm : a = -9223372036854775808
   ·rw [decide_eq_true hm, decide_eq_false (by unfold inR; omega)]; rfl
   ·rw [decide_eq_false hm, decide_eq_true (by unfold inR; omega)]; rfl
  ·show IntKind.i64.wrap (0 - a) = _
   unfold inR at h
   rw [wrap64_id (by omega) (by omega)]; omega
 rw [decide_eq_false h3, cf]
 show decide (IntKind.i64.wrap ((IntKind.i64.wrap (a * b)).tdiv b) = a) = _ ∧ (_ → IntKind.i64.wrap (a * b) = a * b)
 by_cases hr : inR (a * b)
 ·have h4 : IntKind.i64.wrap (a * b) = a * b := wrap64_id hr.1 hr.2
  refine ⟨?_, fun _ => h4⟩
  rw [h4, decide_eq_true hr, Int.mul_tdiv_cancel a h1, decide_eq_true (wrap64_id ha.1 ha.2)]
 ·refine ⟨?_, fun h => absurd h hr⟩
  rw [decide_eq_false hr]
  refine decide_eq_false fun he => ?_
  have hb1 : b ≠ 1 := fun h => hr (by rw [h, Int.mul_one]; exact ha')
  have hw := wrap_rng (a * b)
  have hd := tdiv_small (w := IntKind.i64.wrap (a * b)) hw h1 h3 hb1
  rw [wrap64_id (by omega) (by omega)] at he
  have hq := Int.mul_tdiv_add_tmod (IntKind.i64.wrap (a * b)) b
  rw [he, Int.mul_comm b a] at hq
  have ht := tmod_lt (w := IntKind.i64.wrap (a * b)) h1
  have hk : ∃ k, IntKind.i64.wrap (a * b) = a * b + k * 18446744073709551616 := by
   generalize a * b = z
   simp only [IntKind.wrap]
   first
    | exact ⟨_, by omega⟩
    | (simp [IntKind.bits, IntKind.signed]; refine ⟨-((z + 9223372036854775808) / 18446744073709551616), ?_⟩; omega)
  obtain ⟨k, hk⟩ := hk
  generalize (IntKind.i64.wrap (a * b)).tmod b = t at *
  generalize IntKind.i64.wrap (a * b) = w at *
  unfold inR at hr
  generalize a * b = p at *
  omega
theorem ptimes_run {a b : Int} (ha : inR a) (hb : inR b) : ∃ v, F129.run [PK.v (Ty.int .i64), PK.v (Ty.int .i64)] [RK.v (Ty.int .i64), RK.v Ty.bool] 4000000 (a, b, ()) = some ((v, decide (inR (a * b)), ()), ()) ∧ (inR (a * b) → v = a * b) := by
 have fin : ∀ u v : Int, 0 ≤ u → u ≤ 9223372036854775808 → 0 ≤ v → v ≤ 9223372036854775808 → u * v = (if decide (a < 0) = decide (b < 0) then a * b else -(a * b)) →
   ∃ q, F129c6 3999999 a b u v = some ((q, decide (inR (a * b)), ()), ()) ∧ (inR (a * b) → q = a * b) := by
  intro u v hu hu' hv hv' hp
  rw [show F129c6 3999999 a b u v = _ from F129c6_eq 3999998 a b u v, bnd (mul64 hu (by omega) hv (by omega))]
  simp only []
  have h0 : 0 ≤ u * v := Int.mul_nonneg hu hv
  generalize hg : u * v = m at *
  by_cases hh : m / 18446744073709551616 = 0
  ·have h1 : m < 18446744073709551616 := by omega
   rw [decide_eq_true hh, Bool.not_true, cf, Int.emod_eq_of_lt h0 h1]
   by_cases hs : decide (a < 0) = decide (b < 0)
   ·rw [if_pos hs] at hp
    rw [decide_eq_true hs, Bool.not_true, cf]
    refine ⟨IntKind.i64.wrap m, ?_, fun h => ?_⟩
    ·have hd : decide (m < 9223372036854775808) = decide (inR (a * b)) := decide_eq_decide.2 ⟨fun h => by unfold inR; omega, fun h => by unfold inR at h; omega⟩
     rw [hd]
    ·show IntKind.i64.wrap m = _
     rw [hp]; exact wrap64_id h.1 h.2
   ·rw [if_neg hs] at hp
    rw [decide_eq_false hs, Bool.not_false, ct]
    refine ⟨IntKind.i64.wrap (IntKind.u64.wrap (0 - m)), ?_, fun h => ?_⟩
    ·have hd : decide (m ≤ 9223372036854775808) = decide (inR (a * b)) := decide_eq_decide.2 ⟨fun h => by unfold inR; omega, fun h => by unfold inR at h; omega⟩
     rw [hd]
    ·show IntKind.i64.wrap (IntKind.u64.wrap (0 - m)) = _
     unfold inR at h
     rw [uwrap]
     by_cases hz : m = 0
     ·subst hz
      rw [show (0 - (0 : Int)) % 18446744073709551616 = 0 from rfl, wrap64_id (by omega) (by omega)]; omega
     ·rw [show (0 - m) % 18446744073709551616 = 18446744073709551616 - m by omega, wrap_hi (by omega) (by omega)]; omega
  ·rw [decide_eq_false hh, Bool.not_false, ct]
   have hn : ¬ inR (a * b) := by
    unfold inR
    split at hp <;> omega
   exact ⟨0, by rw [decide_eq_false hn], fun h => absurd h hn⟩
 unfold inR at ha hb
 have key : ∀ u, 0 ≤ u → u ≤ 9223372036854775808 → u = (if a < 0 then -a else a) → ∃ q, F129c4 4000000 a b u (IntKind.u64.wrap b) = some ((q, decide (inR (a * b)), ()), ()) ∧ (inR (a * b) → q = a * b) := by
  intro u h1 h2 h3
  rw [show F129c4 4000000 a b u (IntKind.u64.wrap b) = _ from F129c4_eq 3999999 a b u _]
  by_cases hb0 : b < 0
  ·rw [cdt hb0]
   have e : IntKind.u64.wrap (0 - IntKind.u64.wrap b) = -b := by rw [uwrap, uwrap]; omega
   rw [e]
   refine fin u (-b) h1 h2 (by omega) (by omega) ?_
   rw [h3, decide_eq_true hb0]
   by_cases ha0 : a < 0
   ·rw [if_pos ha0, decide_eq_true ha0, if_pos rfl, Int.neg_mul_neg]
   ·rw [if_neg ha0, decide_eq_false ha0, if_neg (by decide), Int.mul_neg]
  ·rw [cdf hb0]
   have e : IntKind.u64.wrap b = b := by rw [uwrap]; omega
   rw [e]
   refine fin u b h1 h2 (by omega) (by omega) ?_
   rw [h3, decide_eq_false hb0]
   by_cases ha0 : a < 0
   ·rw [if_pos ha0, decide_eq_true ha0, if_neg (by decide), Int.neg_mul]
   ·rw [if_neg ha0, decide_eq_false ha0, if_pos rfl]
 rw [show F129.run [PK.v (Ty.int .i64), PK.v (Ty.int .i64)] [RK.v (Ty.int .i64), RK.v Ty.bool] 4000000 (a, b, ()) = _ from F129_run _ _ _]
 by_cases ha0 : a < 0
 ·rw [cdt ha0]
  have e : IntKind.u64.wrap (0 - IntKind.u64.wrap a) = -a := by rw [uwrap, uwrap]; omega
  rw [e]
  exact key (-a) (by omega) (by omega) (by rw [if_pos ha0])
 ·rw [cdf ha0]
  have e : IntKind.u64.wrap a = a := by rw [uwrap]; omega
  rw [e]
  exact key a (by omega) (by omega) (by rw [if_neg ha0])
theorem parith_run {op : Int} {a b : Val} (ha : inR a.int) (hb : inR b.int) : F95.run [PK.v (Ty.int .i64), PK.v (Ty.nm 0), PK.v (Ty.nm 0)] [RK.v (Ty.nm 0)] 4000000 (op, a, b, ()) = some ((vArith op a b, ()), ()) := by
 have h27 : F95c27 3999999 zVal = some ((zVal, ()), ()) := F95c27_eq 3999998 zVal
 have h3 : F95c3 4000000 op a b zVal = some (((bif !(numV op a.int b.int).2 then zVal else intV (numV op a.int b.int).1), ()), ()) := by
  rw [show F95c3 4000000 op a b zVal = _ from F95c3_eq 3999999 op a b zVal, h27]
  simp only [bnd (pint_run _)]
  unfold numV
  by_cases h9 : op = 9
  ·rw [cdt h9, cdt h9, add_ok ha.1 ha.2 hb.1 hb.2]
   generalize (!(decide (0 < b.int) && decide (IntKind.i64.wrap (9223372036854775807 - b.int) < a.int) || decide (b.int < 0) && decide (a.int < IntKind.i64.wrap (-9223372036854775808 - b.int)))) = q
   cases q <;> rfl
  rw [cdf h9, cdf h9]
  by_cases h10 : op = 10
  ·rw [cdt h10, cdt h10, sub_ok ha.1 ha.2 hb.1 hb.2]
   generalize (!(decide (b.int < 0) && decide (IntKind.i64.wrap (9223372036854775807 + b.int) < a.int) || decide (0 < b.int) && decide (a.int < IntKind.i64.wrap (-9223372036854775808 + b.int)))) = q
   cases q <;> rfl
  rw [cdf h10, cdf h10]
  by_cases h11 : op = 11
  ·obtain ⟨v, e, hv⟩ := ptimes_run ha hb
   obtain ⟨m1, m2⟩ := mulV_spec ha hb
   rw [cdt h11, cdt h11, bnd e, m1]
   by_cases hr : inR (a.int * b.int)
   ·rw [decide_eq_true hr, hv hr, m2 hr]; rfl
   ·rw [decide_eq_false hr]; rfl
  rw [cdf h11, cdf h11]
  by_cases h12 : op = 12
  ·rw [cdt h12, cdt h12]
   by_cases h0 : b.int = 0
   ·rw [decide_eq_true h0]; rfl
   ·rw [decide_eq_false h0, if_neg h0]
    cases decide (b.int = -1) <;> cases decide (a.int = -9223372036854775808) <;> rfl
  rw [cdf h12, cdf h12]
  by_cases h13 : op = 13
  ·rw [cdt h13, cdt h13]
   by_cases h0 : b.int = 0
   ·rw [decide_eq_true h0]; rfl
   ·rw [decide_eq_false h0, if_neg h0]
    cases decide (b.int = -1) <;> rfl
  rw [cdf h13, cdf h13]; rfl
 rw [show F95.run [PK.v (Ty.int .i64), PK.v (Ty.nm 0), PK.v (Ty.nm 0)] [RK.v (Ty.nm 0)] 4000000 (op, a, b, ()) = _ from F95_run _ _ _ _, h3]
 unfold vArith
 cases decide (a.kind = 2) <;> cases decide (b.kind = 2) <;> rfl
end Go.Proofs.Tryz
