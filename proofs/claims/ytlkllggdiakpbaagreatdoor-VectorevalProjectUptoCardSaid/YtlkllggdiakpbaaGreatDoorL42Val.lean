/- Law 42: the reference's values: comparing, logic, arithmetic. -/
import Derived.Test.YtlkllggdiakpbaaGreatDoorL42Eqs
import Derived.Test.YtlkllggdiakpbaaGreatDoorL42Typ
set_option linter.unusedVariables false
set_option linter.unusedSimpArgs false
namespace Go.Proofs.Tryz
open Go.Eng
def sgn (a b : Bool) : Int := bif a then -1 else bif b then 1 else 0
theorem sgn_run (a b : Bool) : F164.run [PK.v Ty.bool, PK.v Ty.bool] [RK.v (Ty.int .i64)] 4000000 (a, b, ()) = some ((sgn a b, ()), ()) := by
 rw [F164_run]; unfold sgn; cases a <;> cases b <;> rfl
def vcmp (a b : Val) : Int :=
 bif !decide (a.kind = b.kind) then sgn (decide (a.kind < b.kind)) true else
 bif decide (a.kind = 3) then sgn (strLt a.text b.text) (strLt b.text a.text) else sgn (decide (a.int < b.int)) (decide (b.int < a.int))
theorem vcmp_run (a b : Val) : F139.run [PK.v (Ty.nm 0), PK.v (Ty.nm 0)] [RK.v (Ty.int .i64)] 4000000 (a, b, ()) = some ((vcmp a b, ()), ()) := by
 rw [show F139.run [PK.v (Ty.nm 0), PK.v (Ty.nm 0)] [RK.v (Ty.int .i64)] 4000000 (a, b, ()) = _ from F139_run _ _ _]
 unfold vcmp
 cases decide (a.kind = b.kind) with
 | false => rw [Bool.not_false, ct, ct, bnd (sgn_run _ _)]
 | true =>
  rw [Bool.not_true, cf, cf]
  cases decide (a.kind = 3) with
  | true => rw [ct, ct, bnd (sgn_run _ _)]
  | false => rw [cf, cf, bnd (sgn_run _ _)]
def holdsC (op c : Int) : Bool :=
 bif decide (op = 1) then decide (c = 0) else bif decide (op = 2) then !decide (c = 0) else bif decide (op = 3) then decide (c < 0) else
 bif decide (op = 4) then decide (c ≤ 0) else bif decide (op = 5) then decide (0 < c) else bif decide (op = 6) then decide (0 ≤ c) else false
theorem holdsC_run (op c : Int) : F138.run [PK.v (Ty.int .i64), PK.v (Ty.int .i64)] [RK.v Ty.bool] 4000000 (op, c, ()) = some ((holdsC op c, ()), ()) := by
 rw [F138_run]; unfold holdsC
 cases decide (op = 1) <;> cases decide (op = 2) <;> cases decide (op = 3) <;> cases decide (op = 4) <;> cases decide (op = 5) <;> cases decide (op = 6) <;> rfl
theorem rb_run (b : Bool) : F104.run [PK.v Ty.bool] [RK.v (Ty.nm 0)] 4000000 (b, ()) = some ((vbool b, ()), ()) := by
 rw [F104_run]; cases b <;> rfl
theorem rt_run (b : Bool) : F69.run [PK.v Ty.bool] [RK.v (Ty.nm 0)] 4000000 (b, ()) = some ((vbool b, ()), ()) := by
 rw [F69_run]; cases b <;> rfl
def vtest (op : Int) (a b : Val) : Val :=
 bif decide (a.kind = 0) then zVal else bif !decide (a.kind = b.kind) then zVal else bif decide (op < 1) then zVal else bif decide (6 < op) then zVal else vbool (holdsC op (vcmp a b))
theorem vtest_run (op : Int) (a b : Val) : F111.run [PK.v (Ty.int .i64), PK.v (Ty.nm 0), PK.v (Ty.nm 0)] [RK.v (Ty.nm 0)] 4000000 (op, a, b, ()) = some ((vtest op a b, ()), ()) := by
 have h3 : F111c3 4000000 op a b zVal = some ((vbool (holdsC op (vcmp a b)), ()), ()) := by
  rw [show F111c3 4000000 op a b zVal = _ from F111c3_eq 3999999 op a b zVal, bnd (vcmp_run a b), bnd (holdsC_run _ _), bnd (rb_run _)]
 rw [show F111.run [PK.v (Ty.int .i64), PK.v (Ty.nm 0), PK.v (Ty.nm 0)] [RK.v (Ty.nm 0)] 4000000 (op, a, b, ()) = _ from F111_run _ _ _ _, h3]
 unfold vtest
 cases decide (a.kind = 0) <;> cases decide (a.kind = b.kind) <;> cases decide (op < 1) <;> cases decide (6 < op) <;> rfl
def isT (v : Val) : Bool := decide (v.kind = 1) && decide (v.int = 1)
def isF (v : Val) : Bool := decide (v.kind = 1) && decide (v.int = 0)
theorem isT_run (v : Val) : F76.run [PK.v (Ty.nm 0)] [RK.v Ty.bool] 4000000 (v, ()) = some ((isT v, ()), ()) := by
 rw [F76_run]; unfold isT; cases decide (v.kind = 1) <;> rfl
theorem isF_run (v : Val) : F136.run [PK.v (Ty.nm 0)] [RK.v Ty.bool] 4000000 (v, ()) = some ((isF v, ()), ()) := by
 rw [F136_run]; unfold isF; cases decide (v.kind = 1) <;> rfl
def andL : Bool → List Val → Val
 | u, [] => bif u then zVal else vbool true
 | u, v :: l => bif isF v then vbool false else andL (u || !isT v) l
def orL : Bool → List Val → Val
 | u, [] => bif u then zVal else vbool false
 | u, v :: l => bif isT v then vbool true else orL (u || !isF v) l
theorem drop_consV {l : List Val} {i : Nat} (h : i < l.length) : l.drop i = l.getD i zVal :: l.drop (i + 1) := by
 rw [getD_eq h, List.drop_eq_getElem_cons h]
theorem andL_run {l : List Val} (hl : l.length ≤ 1000000) : F106.run [PK.v (Ty.nm 0).sl] [RK.v (Ty.nm 0)] 4000000 (l, ()) = some ((andL false l, ()), ()) := by
 rw [F106_run]
 obtain ⟨r, e, rfl⟩ := loop (fun n i s => F106c3 n l s i zVal) l.length 1 0 (fun i s => andL s (l.drop i) = andL false l) (fun r => r = ((andL false l, ()), ()))
  (fun n s _ hs => ⟨((andL s [], ()), ()), by
   rw [F106c3_eq, cdf (by omega), bnd (rb_run true), andL]
   cases s <;> rfl, by
   rw [List.drop_length] at hs
   rw [hs]⟩)
  (fun n i s hi hs => by
   rw [drop_consV hi, andL] at hs
   rw [F106c3_eq, cdt (by omega), gd hi, Int.toNat_natCast, bnd (isF_run _), gd hi, bnd (isT_run _), bnd (rb_run false), w1 (by omega)]
   simp only []
   cases hF : isF (l.getD i zVal) with
   | true => rw [hF, ct] at hs; exact .inr ⟨_, by rw [ct], by rw [← hs]⟩
   | false =>
    rw [hF, cf] at hs
    cases hT : isT (l.getD i zVal) with
    | true => rw [hT] at hs; exact .inl ⟨n, s, Nat.le_refl _, by rw [cf, Bool.not_true, cf], by rw [← hs]; simp⟩
    | false => rw [hT] at hs; exact .inl ⟨n, true, Nat.le_refl _, by rw [cf, Bool.not_false, ct], by rw [← hs]; simp⟩) l.length 4000000 0 false (by omega) (by omega) (by omega) rfl
 exact e
theorem orL_run {l : List Val} (hl : l.length ≤ 1000000) : F107.run [PK.v (Ty.nm 0).sl] [RK.v (Ty.nm 0)] 4000000 (l, ()) = some ((orL false l, ()), ()) := by
 rw [F107_run]
 obtain ⟨r, e, rfl⟩ := loop (fun n i s => F107c3 n l s i zVal) l.length 1 0 (fun i s => orL s (l.drop i) = orL false l) (fun r => r = ((orL false l, ()), ()))
  (fun n s _ hs => ⟨((orL s [], ()), ()), by
   rw [F107c3_eq, cdf (by omega), bnd (rb_run false), orL]
   cases s <;> rfl, by
   rw [List.drop_length] at hs
   rw [hs]⟩)
  (fun n i s hi hs => by
   rw [drop_consV hi, orL] at hs
   rw [F107c3_eq, cdt (by omega), gd hi, Int.toNat_natCast, bnd (isT_run _), gd hi, bnd (isF_run _), bnd (rb_run true), w1 (by omega)]
   simp only []
   cases hF : isT (l.getD i zVal) with
   | true => rw [hF, ct] at hs; exact .inr ⟨_, by rw [ct], by rw [← hs]⟩
   | false =>
    rw [hF, cf] at hs
    cases hT : isF (l.getD i zVal) with
    | true => rw [hT] at hs; exact .inl ⟨n, s, Nat.le_refl _, by rw [cf, Bool.not_true, cf], by rw [← hs]; simp⟩
    | false => rw [hT] at hs; exact .inl ⟨n, true, Nat.le_refl _, by rw [cf, Bool.not_false, ct], by rw [← hs]; simp⟩) l.length 4000000 0 false (by omega) (by omega) (by omega) rfl
 exact e
def vNot (v : Val) : Val := bif !decide (v.kind = 1) then zVal else vbool (decide (v.int = 0))
theorem vNot_run (v : Val) : F66.run [PK.v (Ty.nm 0)] [RK.v (Ty.nm 0)] 4000000 (v, ()) = some ((vNot v, ()), ()) := by
 rw [F66_run, bnd (rb_run _)]; unfold vNot; cases decide (v.kind = 1) <;> rfl
def intV (n : Int) : Val := ⟨2, n, []⟩
theorem intV_run (n : Int) : F105.run [PK.v (Ty.int .i64)] [RK.v (Ty.nm 0)] 4000000 (n, ()) = some ((intV n, ()), ()) := F105_run _ _
def vNeg (v : Val) : Val := bif !decide (v.kind = 2) then zVal else bif decide (v.int = -9223372036854775808) then zVal else intV (IntKind.i64.wrap (0 - v.int))
theorem vNeg_run (v : Val) : F67.run [PK.v (Ty.nm 0)] [RK.v (Ty.nm 0)] 4000000 (v, ()) = some ((vNeg v, ()), ()) := by
 rw [F67_run, bnd (intV_run _)]; unfold vNeg; cases decide (v.kind = 2) <;> cases decide (v.int = -9223372036854775808) <;> rfl
def mulV (a b : Int) : Int × Bool :=
 bif decide (a = 0) || decide (b = 0) then (0, true) else bif decide (a = -1) then (IntKind.i64.wrap (0 - b), !decide (b = -9223372036854775808)) else
 bif decide (b = -1) then (IntKind.i64.wrap (0 - a), !decide (a = -9223372036854775808)) else
 (IntKind.i64.wrap (a * b), decide (IntKind.i64.wrap ((IntKind.i64.wrap (a * b)).tdiv b) = a))
theorem mulV_run (a b : Int) : F163.run [PK.v (Ty.int .i64), PK.v (Ty.int .i64)] [RK.v (Ty.int .i64), RK.v Ty.bool] 4000000 (a, b, ()) = some (((mulV a b).1, (mulV a b).2, ()), ()) := by
 rw [F163_run, show F163c3 4000000 a b = _ from F163c3_eq 3999999 a b]
 unfold mulV
 by_cases h0 : a = 0
 ·rw [cdt h0, decide_eq_true h0]; rfl
 rw [cdf h0, decide_eq_false h0, Bool.false_or]
 by_cases h1 : b = 0
 ·rw [cdt h1, decide_eq_true h1]; rfl
 rw [cdf h1, decide_eq_false h1, cf]
 by_cases h2 : a = -1
 ·rw [cdt h2, cdt h2]
 rw [cdf h2, cdf h2]
 by_cases h3 : b = -1
 ·rw [cdt h3, cdt h3]
 rw [cdf h3, cdf h3, if_neg h1]
def numV (op a b : Int) : Int × Bool :=
 bif decide (op = 9) then (IntKind.i64.wrap (a + b), !((decide (0 < b) && decide (IntKind.i64.wrap (9223372036854775807 - b) < a)) || (decide (b < 0) && decide (a < IntKind.i64.wrap (-9223372036854775808 - b))))) else
 bif decide (op = 10) then (IntKind.i64.wrap (a - b), !((decide (b < 0) && decide (IntKind.i64.wrap (9223372036854775807 + b) < a)) || (decide (0 < b) && decide (a < IntKind.i64.wrap (-9223372036854775808 + b))))) else
 bif decide (op = 11) then mulV a b else
 bif decide (op = 12) then (bif decide (b = 0) then (0, false) else bif decide (a = -9223372036854775808) && decide (b = -1) then (0, false) else (IntKind.i64.wrap (a.tdiv b), true)) else
 bif decide (op = 13) then (bif decide (b = 0) then (0, false) else bif decide (b = -1) then (0, true) else (a.tmod b, true)) else (0, false)
theorem numV_run (op a b : Int) : F137.run [PK.v (Ty.int .i64), PK.v (Ty.int .i64), PK.v (Ty.int .i64)] [RK.v (Ty.int .i64), RK.v Ty.bool] 4000000 (op, a, b, ()) = some (((numV op a b).1, (numV op a b).2, ()), ()) := by
 rw [F137_run, bnd (mulV_run a b)]
 unfold numV
 by_cases h9 : op = 9
 ·rw [cdt h9, cdt h9]
  cases decide (0 < b) <;> cases decide (IntKind.i64.wrap (9223372036854775807 - b) < a) <;> cases decide (b < 0) <;> rfl
 rw [cdf h9, cdf h9]
 by_cases h10 : op = 10
 ·rw [cdt h10, cdt h10]
  cases decide (b < 0) <;> cases decide (IntKind.i64.wrap (9223372036854775807 + b) < a) <;> cases decide (0 < b) <;> rfl
 rw [cdf h10, cdf h10]
 by_cases h11 : op = 11
 ·rw [cdt h11, cdt h11]
 rw [cdf h11, cdf h11]
 by_cases h12 : op = 12
 ·rw [cdt h12, cdt h12, show F137c11 4000000 a b = _ from F137c11_eq 3999999 a b]
  by_cases h0 : b = 0
  ·rw [cdt h0, cdt h0]
  ·rw [cdf h0, cdf h0, if_neg h0]
   cases decide (a = -9223372036854775808) <;> cases decide (b = -1) <;> rfl
 rw [cdf h12, cdf h12]
 by_cases h13 : op = 13
 ·rw [cdt h13, cdt h13]
  by_cases h0 : b = 0
  ·rw [cdt h0, cdt h0]
  ·rw [cdf h0, cdf h0, if_neg h0]
   cases decide (b = -1) <;> rfl
 rw [cdf h13, cdf h13]
def vArith (op : Int) (a b : Val) : Val :=
 bif !decide (a.kind = 2) then zVal else bif !decide (b.kind = 2) then zVal else bif !(numV op a.int b.int).2 then zVal else intV (numV op a.int b.int).1
theorem vArith_run (op : Int) (a b : Val) : F108.run [PK.v (Ty.int .i64), PK.v (Ty.nm 0), PK.v (Ty.nm 0)] [RK.v (Ty.nm 0)] 4000000 (op, a, b, ()) = some ((vArith op a b, ()), ()) := by
 rw [show F108.run [PK.v (Ty.int .i64), PK.v (Ty.nm 0), PK.v (Ty.nm 0)] [RK.v (Ty.nm 0)] 4000000 (op, a, b, ()) = _ from F108_run _ _ _ _, show F108c3 4000000 op a b zVal = _ from F108c3_eq 3999999 op a b zVal, bnd (numV_run _ _ _)]
 simp only []
 rw [bnd (intV_run _)]
 unfold vArith
 cases decide (a.kind = 2) <;> cases decide (b.kind = 2) <;> cases (numV op a.int b.int).2 <;> rfl
def vConcat (a b : Val) : Val :=
 bif !decide (a.kind = 3) then zVal else bif !decide (b.kind = 3) then zVal else bif decide (4096 < a.text.length + b.text.length) then zVal else ⟨3, 0, a.text ++ b.text⟩
theorem vConcat_run {a b : Val} (ha : a.text.length ≤ 1000000) (hb : b.text.length ≤ 1000000) : F109.run [PK.v (Ty.nm 0), PK.v (Ty.nm 0)] [RK.v (Ty.nm 0)] 4000000 (a, b, ()) = some ((vConcat a b, ()), ()) := by
 rw [show F109.run [PK.v (Ty.nm 0), PK.v (Ty.nm 0)] [RK.v (Ty.nm 0)] 4000000 (a, b, ()) = _ from F109_run _ _ _, show F109c3 4000000 a b zVal = _ from F109c3_eq 3999999 a b zVal, if_pos (by unfold lim; omega), wrap64_id (by omega) (by omega),
  show decide ((4096 : Int) < (a.text.length : Int) + (b.text.length : Int)) = decide (4096 < a.text.length + b.text.length) by rw [decide_eq_decide]; omega]
 unfold vConcat
 cases decide (a.kind = 3) <;> cases decide (b.kind = 3) <;> cases decide (4096 < a.text.length + b.text.length) <;> rfl
def atV (r : List Val) (i : Int) : Val := bif decide (i < 0) then zVal else bif decide ((r.length : Int) ≤ i) then zVal else r.getD i.toNat zVal
theorem atV_run (r : List Val) (i : Int) : F64.run [PK.v (Ty.nm 0).sl, PK.v (Ty.int .i64)] [RK.v (Ty.nm 0)] 4000000 (r, i, ()) = some ((atV r i, ()), ()) := by
 rw [F64_run]; unfold atV
 by_cases h : i < 0
 ·rw [cdt h, cdt h]
 ·rw [cdf h, cdf h]
  by_cases h2 : (r.length : Int) ≤ i
  ·rw [cdt h2, cdt h2]
  ·rw [cdf h2, cdf h2, if_pos (by omega), if_pos (by omega)]
/-! ## LIKE -/
theorem like_pct {p s : List Int} {i : Nat} (hs : s.length ≤ 4096) (hi : i < 1000000) : ∀ (d k : Nat) (m : List Bool) (n : Nat), s.length + 1 - k = d → 1 ≤ k → m.length = s.length + 1 → ∃ n' m', n ≤ n' ∧ m'.length = s.length + 1 ∧ F110c9 (n + d + 1) p s i k m = F110c4 n' p s ((i + 1 : Nat) : Int) m'
 | 0, k, m, n, hd, hk, hm => ⟨n, m, Nat.le_refl _, hm, by rw [F110c9_eq, cdf (by omega), w1 (by omega)]⟩
 | d + 1, k, m, n, hd, hk, hm => by
  have e1 : IntKind.i64.wrap ((k : Int) - 1) = ((k - 1 : Nat) : Int) := by rw [wrap64_id (by omega) (by omega)]; omega
  rw [show n + (d + 1) + 1 = (n + d + 1) + 1 from by omega, F110c9_eq, cdt (by omega), e1, gd (by omega), gd (by omega), w1 (by omega)]
  cases m.getD (((k - 1 : Nat) : Int)).toNat false with
  | true =>
   obtain ⟨n', m', h1, h2, h3⟩ := like_pct hs hi d (k + 1) (m.set ((k : Nat) : Int).toNat true) n (by omega) (by omega) (by simpa using hm)
   exact ⟨n', m', h1, h2, by rw [ct, h3]⟩
  | false =>
   obtain ⟨n', m', h1, h2, h3⟩ := like_pct hs hi d (k + 1) m n (by omega) (by omega) hm
   exact ⟨n', m', h1, h2, by rw [cf, h3]⟩
theorem like_chr {p s : List Int} {i : Nat} {c : Int} (hs : s.length ≤ 4096) (hi : i < 1000000) : ∀ (k : Nat) (m : List Bool) (n : Nat), k ≤ s.length → m.length = s.length + 1 → ∃ n' m', n ≤ n' ∧ m'.length = s.length + 1 ∧ F110c14 (n + k + 1) p s i c k m = F110c4 n' p s ((i + 1 : Nat) : Int) m'
 | 0, m, n, hk, hm => ⟨n, m.set (Int.toNat 0) false, Nat.le_refl _, by simpa using hm, by rw [F110c14_eq, cdf (by omega), if_pos (by omega), w1 (by omega)]⟩
 | k + 1, m, n, hk, hm => by
  have e1 : IntKind.i64.wrap (((k + 1 : Nat) : Int) - 1) = ((k : Nat) : Int) := by rw [wrap64_id (by omega) (by omega)]; omega
  rw [show n + (k + 1) + 1 = (n + k + 1) + 1 from by omega, F110c14_eq, cdt (by omega), e1, gd (show k < m.length by omega), gd (show k < s.length by omega)]
  have go : ∀ b, ∃ n' m', n ≤ n' ∧ m'.length = s.length + 1 ∧ F110c14 (n + k + 1) p s i c k (m.set (((k + 1 : Nat) : Int)).toNat b) = F110c4 n' p s ((i + 1 : Nat) : Int) m' := fun b =>
   like_chr hs hi k (m.set (((k + 1 : Nat) : Int)).toNat b) n (by omega) (by simpa using hm)
  cases m.getD (((k : Nat) : Int)).toNat false with
  | true =>
   rw [ct]
   cases decide (c = 95) with
   | true => rw [ct, gd (show k + 1 < m.length by omega)]; exact go _
   | false => rw [cf, gd (show k + 1 < m.length by omega)]; exact go _
  | false => rw [cf, gd (show k + 1 < m.length by omega)]; exact go _
theorem like_some {p s : List Int} (hp : p.length ≤ 4096) (hs : s.length ≤ 4096) : ∃ b, F110.run [PK.v Ty.str, PK.v Ty.str] [RK.v Ty.bool] 40000000 (p, s, ()) = some ((b, ()), ()) := by
 rw [F110_run, w1 (by omega), if_pos (by omega), if_pos (by unfold lim; omega), if_pos (by rw [List.length_replicate]; omega), Int.toNat_natCast]
 obtain ⟨r, e, b, rfl⟩ := loop (fun n i m => F110c4 n p s i m) p.length 4200 0 (fun i m => m.length = s.length + 1) (fun r => ∃ b, r = ((b, ()), ()))
  (fun n m _ hm => ⟨_, by rw [F110c4_eq, cdf (by omega), if_pos (by omega)], _, rfl⟩)
  (fun n i m hi hm => by
   rw [show n + 4200 = (n + 4199) + 1 from rfl, F110c4_eq, cdt (by omega), gd hi]
   cases decide (p.getD ((i : Nat) : Int).toNat 0 = 37) with
   | true =>
    obtain ⟨n', m', h1, h2, h3⟩ := like_pct (p := p) (i := i) hs (by omega) (s.length) 1 m (n + 4199 - s.length - 1) (by omega) (by omega) hm
    rw [show n + 4199 - s.length - 1 + s.length + 1 = n + 4199 from by omega] at h3
    exact .inl ⟨n', m', by omega, by rw [ct]; exact h3, h2⟩
   | false =>
    obtain ⟨n', m', h1, h2, h3⟩ := like_chr (p := p) (i := i) (c := p.getD ((i : Nat) : Int).toNat 0) hs (by omega) s.length m (n + 4199 - s.length - 1) (Nat.le_refl _) hm
    rw [show n + 4199 - s.length - 1 + s.length + 1 = n + 4199 from by omega] at h3
    exact .inl ⟨n', m', by omega, by rw [cf]; exact h3, h2⟩) p.length 40000000 0 ((List.replicate (s.length + 1) false).set (Int.toNat 0) true) (by omega) (by omega) (by omega) (by simp)
 exact ⟨b, e⟩
noncomputable def likeR (p s : List Int) : Bool := match F110.run [PK.v Ty.str, PK.v Ty.str] [RK.v Ty.bool] 40000000 (p, s, ()) with
 | some r => r.1.1
 | none => false
theorem likeR_run {p s : List Int} (hp : p.length ≤ 4096) (hs : s.length ≤ 4096) : F110.run [PK.v Ty.str, PK.v Ty.str] [RK.v Ty.bool] 40000000 (p, s, ()) = some ((likeR p s, ()), ()) := by
 obtain ⟨b, h⟩ := like_some hp hs
 have : likeR p s = b := by unfold likeR; rw [h]
 rw [h, this]
end Go.Proofs.Tryz
