/- Law 36: values, their comparison, rows. -/
import Derived.Test.YtenjolapmchcmaaGreatDoorL36Eqs
set_option linter.unusedVariables false
set_option linter.unusedSimpArgs false
namespace Go.Proofs.Tryz
open Go.Eng
theorem bnd {α β : Type} {o : Option α} {a : α} (h : o = some a) (f : α → Option β) : o.bind f = f a := by rw [h]; rfl
theorem ct {α : Type} (a b : α) : cond true a b = a := Eq.trans (Eq.refl _) rfl
theorem cf {α : Type} (a b : α) : cond false a b = b := Eq.trans (Eq.refl _) rfl
theorem cdt {α : Type} {p : Prop} [Decidable p] (h : p) (a b : α) : (bif decide p then a else b) = a := by rw [decide_eq_true h]; rfl
theorem cdf {α : Type} {p : Prop} [Decidable p] (h : ¬p) (a b : α) : (bif decide p then a else b) = b := by rw [decide_eq_false h]; rfl
def vbool (b : Bool) : Val := ⟨1, bif b then 1 else 0, []⟩
def valid (v : Val) : Bool :=
 bif decide (v.kind = 0) then (bif decide (v.int = 0) then decide (v.text = []) else false) else
 bif decide (v.kind = 1) then (bif decide (v.int = 0) then decide (v.text = []) else bif decide (v.int = 1) then decide (v.text = []) else false) else
 bif decide (v.kind = 2) then decide (v.text = []) else
 bif decide (v.kind = 3) then (bif decide (v.int = 0) then decide ((v.text.length : Int) ≤ 4096) else false) else false
theorem valid_run (v : Val) : F5.run [PK.v (Ty.nm 0)] [RK.v Ty.bool] 4000000 (v, ()) = some ((valid v, ()), ()) := by
 rw [show F5.run [PK.v (Ty.nm 0)] [RK.v Ty.bool] 4000000 (v, ()) = _ from F5_run _ _]
 unfold valid
 cases decide (v.kind = 0) <;> cases decide (v.kind = 1) <;> cases decide (v.kind = 2) <;> cases decide (v.kind = 3) <;> cases decide (v.int = 0) <;> cases decide (v.int = 1) <;> rfl
theorem valid_kind {v : Val} (h : valid v = true) : v.kind = 0 ∨ v.kind = 1 ∨ v.kind = 2 ∨ v.kind = 3 := by
 unfold valid at h
 by_cases h0 : v.kind = 0
 ·exact .inl h0
 by_cases h1 : v.kind = 1
 ·exact .inr (.inl h1)
 by_cases h2 : v.kind = 2
 ·exact .inr (.inr (.inl h2))
 by_cases h3 : v.kind = 3
 ·exact .inr (.inr (.inr h3))
 rw [cdf h0, cdf h1, cdf h2, cdf h3] at h
 cases h
theorem valid_null {v : Val} (h : valid v = true) (h0 : v.kind = 0) : v = zVal := by
 unfold valid at h
 rw [cdt h0] at h
 by_cases h1 : v.int = 0
 ·rw [cdt h1, decide_eq_true_eq] at h
  cases v
  simp only at h0 h h1
  rw [h0, h1, h]; rfl
 ·rw [cdf h1] at h
  cases h
theorem valid_z : valid zVal = true := by decide +kernel
def sgn (a b : Bool) : Int := bif a then -1 else bif b then 1 else 0
theorem sgn_run (a b : Bool) : F51.run [PK.v Ty.bool, PK.v Ty.bool] [RK.v (Ty.int .i64)] 4000000 (a, b, ()) = some ((sgn a b, ()), ()) := by
 rw [F51_run]; unfold sgn; cases a <;> cases b <;> rfl
theorem psgn_run (a b : Bool) : F49.run [PK.v Ty.bool, PK.v Ty.bool] [RK.v (Ty.int .i64)] 4000000 (a, b, ()) = some ((sgn a b, ()), ()) := by
 rw [F49_run]; unfold sgn; cases a <;> cases b <;> rfl
def vcmp (a b : Val) : Int :=
 bif !decide (a.kind = b.kind) then sgn (decide (a.kind < b.kind)) true else
 bif decide (a.kind = 3) then sgn (strLt a.text b.text) (strLt b.text a.text) else sgn (decide (a.int < b.int)) (decide (b.int < a.int))
theorem vcmp_run (a b : Val) : F35.run [PK.v (Ty.nm 0), PK.v (Ty.nm 0)] [RK.v (Ty.int .i64)] 4000000 (a, b, ()) = some ((vcmp a b, ()), ()) := by
 rw [show F35.run [PK.v (Ty.nm 0), PK.v (Ty.nm 0)] [RK.v (Ty.int .i64)] 4000000 (a, b, ()) = _ from F35_run _ _ _]
 unfold vcmp
 cases decide (a.kind = b.kind) with
 | false => rw [Bool.not_false, ct, ct, bnd (sgn_run _ _)]
 | true =>
  rw [Bool.not_true, cf, cf]
  cases decide (a.kind = 3) with
  | true => rw [ct, ct, bnd (sgn_run _ _)]
  | false => rw [cf, cf, bnd (sgn_run _ _)]
theorem pcmp_run {a b : Val} (ha : valid a = true) (hb : valid b = true) : F31.run [PK.v (Ty.nm 0), PK.v (Ty.nm 0)] [RK.v (Ty.int .i64)] 4000000 (a, b, ()) = some ((vcmp a b, ()), ()) := by
 have h8 : F31c8 4000000 a b = some ((sgn (decide (a.int < b.int)) (decide (b.int < a.int)), ()), ()) := by
  rw [show F31c8 4000000 a b = _ from F31c8_eq 3999999 a b, bnd (psgn_run _ _)]
 rw [show F31.run [PK.v (Ty.nm 0), PK.v (Ty.nm 0)] [RK.v (Ty.int .i64)] 4000000 (a, b, ()) = _ from F31_run _ _ _, h8]
 unfold vcmp
 by_cases hk : a.kind = b.kind
 ·rw [decide_eq_true hk, Bool.not_true, cf, cf]
  by_cases h3 : a.kind = 3
  ·rw [cdt h3, cdt h3]; rfl
  rw [cdf h3, cdf h3]
  by_cases h1 : a.kind = 1
  ·rw [cdt h1]
  rw [cdf h1]
  by_cases h2 : a.kind = 2
  ·rw [cdt h2]
  rw [cdf h2]
  have h0 : a.kind = 0 := by rcases valid_kind ha with h | h | h | h <;> omega
  rw [valid_null ha h0, valid_null hb (by omega)]; rfl
 ·rw [decide_eq_false hk, Bool.not_false, ct, ct, bnd (psgn_run _ _)]
def holdsC (op c : Int) : Bool :=
 bif decide (op = 1) then decide (c = 0) else bif decide (op = 2) then !decide (c = 0) else bif decide (op = 3) then decide (c < 0) else
 bif decide (op = 4) then decide (c ≤ 0) else bif decide (op = 5) then decide (0 < c) else bif decide (op = 6) then decide (0 ≤ c) else false
theorem holdsC_run (op c : Int) : F34.run [PK.v (Ty.int .i64), PK.v (Ty.int .i64)] [RK.v Ty.bool] 4000000 (op, c, ()) = some ((holdsC op c, ()), ()) := by
 rw [F34_run]; unfold holdsC
 cases decide (op = 1) <;> cases decide (op = 2) <;> cases decide (op = 3) <;> cases decide (op = 4) <;> cases decide (op = 5) <;> cases decide (op = 6) <;> rfl
theorem rt_run (b : Bool) : F33.run [PK.v Ty.bool] [RK.v (Ty.nm 0)] 4000000 (b, ()) = some ((vbool b, ()), ()) := by
 rw [F33_run]; cases b <;> rfl
theorem pbool_run (b : Bool) : F32.run [PK.v Ty.bool] [RK.v (Ty.nm 0)] 4000000 (b, ()) = some ((vbool b, ()), ()) := by
 rw [F32_run]; cases b <;> rfl
theorem ebool_run (b : Bool) : F27.run [PK.v Ty.bool] [RK.v (Ty.nm 0)] 4000000 (b, ()) = some ((vbool b, ()), ()) := by
 rw [F27_run]; cases b <;> rfl
def vtest (op : Int) (a b : Val) : Val :=
 bif decide (a.kind = 0) then zVal else bif !decide (a.kind = b.kind) then zVal else bif decide (op < 1) then zVal else bif decide (6 < op) then zVal else vbool (holdsC op (vcmp a b))
theorem vtest_run (op : Int) (a b : Val) : F19.run [PK.v (Ty.int .i64), PK.v (Ty.nm 0), PK.v (Ty.nm 0)] [RK.v (Ty.nm 0)] 4000000 (op, a, b, ()) = some ((vtest op a b, ()), ()) := by
 have h3 : F19c3 4000000 op a b zVal = some ((vbool (holdsC op (vcmp a b)), ()), ()) := by
  rw [show F19c3 4000000 op a b zVal = _ from F19c3_eq 3999999 op a b zVal, bnd (vcmp_run a b), bnd (holdsC_run _ _), bnd (rt_run _)]
 rw [show F19.run [PK.v (Ty.int .i64), PK.v (Ty.nm 0), PK.v (Ty.nm 0)] [RK.v (Ty.nm 0)] 4000000 (op, a, b, ()) = _ from F19_run _ _ _ _, h3]
 unfold vtest
 cases decide (a.kind = 0) <;> cases decide (a.kind = b.kind) <;> cases decide (op < 1) <;> cases decide (6 < op) <;> rfl
theorem ptest_run {op : Int} {a b : Val} (ha : valid a = true) (hb : valid b = true) : F16.run [PK.v (Ty.int .i64), PK.v (Ty.nm 0), PK.v (Ty.nm 0)] [RK.v (Ty.nm 0)] 4000000 (op, a, b, ()) = some ((vtest op a b, ()), ()) := by
 have h18 : ∀ x, F16c18 3999999 x zVal = some ((vbool x, ()), ()) := fun x => by
  rw [show F16c18 3999999 x zVal = _ from F16c18_eq 3999998 x zVal, bnd (pbool_run _)]
 have h3 : F16c3 4000000 op a b zVal = some ((vbool (holdsC op (vcmp a b)), ()), ()) := by
  rw [show F16c3 4000000 op a b zVal = _ from F16c3_eq 3999999 op a b zVal, bnd (pcmp_run ha hb)]
  simp only [h18]
  unfold holdsC
  cases decide (op = 1) <;> cases decide (op = 2) <;> cases decide (op = 3) <;> cases decide (op = 4) <;> cases decide (op = 5) <;> cases decide (op = 6) <;> rfl
 rw [show F16.run [PK.v (Ty.int .i64), PK.v (Ty.nm 0), PK.v (Ty.nm 0)] [RK.v (Ty.nm 0)] 4000000 (op, a, b, ()) = _ from F16_run _ _ _ _, h3]
 unfold vtest
 cases decide (a.kind = 0) <;> cases decide (a.kind = b.kind) <;> cases decide (op < 1) <;> cases decide (6 < op) <;> rfl
def isT (v : Val) : Bool := decide (v.kind = 1) && decide (v.int = 1)
theorem isT_run (v : Val) : F18.run [PK.v (Ty.nm 0)] [RK.v Ty.bool] 4000000 (v, ()) = some ((isT v, ()), ()) := by
 rw [F18_run]; unfold isT; cases decide (v.kind = 1) <;> rfl
theorem pisT_run (v : Val) : F15.run [PK.v (Ty.nm 0)] [RK.v Ty.bool] 4000000 (v, ()) = some ((isT v, ()), ()) := by
 rw [F15_run]; unfold isT; cases decide (v.kind = 1) <;> rfl
def atV (r : List Val) (i : Int) : Val := bif decide (i < 0) then zVal else bif decide ((r.length : Int) ≤ i) then zVal else r.getD i.toNat zVal
theorem pat_run (r : List Val) (i : Int) : F14.run [PK.v (Ty.nm 0).sl, PK.v (Ty.int .i64)] [RK.v (Ty.nm 0)] 4000000 (r, i, ()) = some ((atV r i, ()), ()) := by
 rw [F14_run]; unfold atV
 by_cases h : i < 0
 ·rw [cdt h, cdt h]
 ·rw [cdf h, cdf h]
  by_cases h2 : (r.length : Int) ≤ i
  ·rw [cdt h2, cdt h2]
  ·rw [cdf h2, cdf h2, if_pos (by omega), if_pos (by omega)]
theorem rat_run (r : List Val) (i : Int) : F17.run [PK.v (Ty.nm 0).sl, PK.v (Ty.int .i64)] [RK.v (Ty.nm 0)] 4000000 (r, i, ()) = some ((atV r i, ()), ()) := by
 rw [F17_run]; unfold atV
 by_cases h : i < 0
 ·rw [cdt h, cdt h]
 ·rw [cdf h, cdf h]
  by_cases h2 : (r.length : Int) ≤ i
  ·rw [cdt h2, cdt h2]
  ·rw [cdf h2, cdf h2, if_pos (by omega), if_pos (by omega)]
def validL (r : List Val) : Bool := r.all valid
theorem getD_eq {α : Type} {l : List α} {i : Nat} {d : α} (h : i < l.length) : l.getD i d = l[i] := by
 rw [List.getD_eq_getElem?_getD, List.getElem?_eq_getElem h]; rfl
theorem row_c2 {r : List Val} (hl : r.length ≤ 1000000) : ∀ (d i n : Nat), r.length - i = d → i ≤ r.length → d < n → F4c2 n r (i : Int) = some ((validL (r.drop i), ()), ())
 | 0, i, n, hd, hi, hn => by
  obtain ⟨n, rfl⟩ : ∃ m, n = m + 1 := ⟨n - 1, by omega⟩
  rw [F4c2_eq, cdf (by omega), List.drop_eq_nil_of_le (by omega)]
  rfl
 | d + 1, i, n, hd, hi, hn => by
  obtain ⟨n, rfl⟩ : ∃ m, n = m + 1 := ⟨n - 1, by omega⟩
  have hlt : i < r.length := by omega
  rw [F4c2_eq, cdt (by omega), if_pos (by omega), if_pos (by omega), bnd (valid_run _), Int.toNat_natCast, getD_eq hlt, List.drop_eq_getElem_cons hlt]
  show (bif !valid r[i] then _ else _) = some ((valid r[i] && validL (r.drop (i + 1)), ()), ())
  cases valid r[i] with
  | false => rfl
  | true =>
   rw [Bool.not_true, cf, wrap64_id (by omega) (by omega)]
   exact row_c2 hl d (i + 1) n (by omega) (by omega) (by omega)
theorem row_run {r : List Val} (hl : r.length ≤ 1000000) : F4.run [PK.v (Ty.nm 0).sl] [RK.v Ty.bool] 4000000 (r, ()) = some ((validL r, ()), ()) := by
 rw [show F4.run [PK.v (Ty.nm 0).sl] [RK.v Ty.bool] 4000000 (r, ()) = _ from F4_run _ _]
 exact row_c2 hl r.length 0 4000000 (by omega) (by omega) (by omega)
theorem at_valid {r : List Val} (h : validL r = true) (i : Int) : valid (atV r i) = true := by
 unfold atV
 by_cases h1 : i < 0
 ·rw [cdt h1]; exact valid_z
 rw [cdf h1]
 by_cases h2 : (r.length : Int) ≤ i
 ·rw [cdt h2]; exact valid_z
 rw [cdf h2, getD_eq (by omega)]
 exact List.all_eq_true.1 h _ (List.getElem_mem _)
end Go.Proofs.Tryz
