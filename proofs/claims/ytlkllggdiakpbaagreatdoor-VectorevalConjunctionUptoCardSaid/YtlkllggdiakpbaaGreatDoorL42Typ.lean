/- Law 42: the types of expressions. -/
import Derived.Test.YtlkllggdiakpbaaGreatDoorL42Bound
set_option linter.unusedVariables false
set_option linter.unusedSimpArgs false
namespace Go.Proofs.Tryz
open Go.Eng
def compat (t o : Int) : Bool := decide (t = 0) || decide (t = o)
theorem compat_run (t o : Int) : F121.run [PK.v (Ty.int .i64), PK.v (Ty.int .i64)] [RK.v Ty.bool] 4000000 (t, o, ()) = some ((compat t o, ()), ()) := by
 rw [F121_run]
 unfold compat
 cases decide (t = 0) <;> rfl
def comT : Int → List Int → Int × Bool
 | t, [] => (t, true)
 | t, x :: l => bif compat x (bif decide (t = 0) then x else t) then comT (bif decide (t = 0) then x else t) l else (0, false)
theorem drop_cons {l : List Int} {i : Nat} (h : i < l.length) : l.drop i = l.getD i 0 :: l.drop (i + 1) := by
 rw [getD_eq h, List.drop_eq_getElem_cons h]
theorem comT_run {l : List Int} (hl : l.length ≤ 1000000) : F123.run [PK.v (Ty.int .i64).sl] [RK.v (Ty.int .i64), RK.v Ty.bool] 4000000 (l, ()) = some (((comT 0 l).1, (comT 0 l).2, ()), ()) := by
 rw [F123_run]
 obtain ⟨r, e, rfl⟩ := loop (fun n i s => F123c3 n l s i) l.length 2 0 (fun i s => comT s (l.drop i) = comT 0 l) (fun r => r = (((comT 0 l).1, (comT 0 l).2, ()), ()))
  (fun n s _ hs => ⟨_, by rw [F123c3_eq, cdf (by omega)], by
   rw [List.drop_length] at hs
   rw [← hs]; rfl⟩)
  (fun n i s hi hs => by
   rw [drop_cons hi, comT] at hs
   have e1 : F123c3 (n + 2) l s i = F123c7 (n + 1) l (bif decide (s = 0) then l.getD i 0 else s) i := by
    rw [F123c3_eq, cdt (by omega), gd hi, Int.toNat_natCast]
    cases decide (s = 0) <;> rfl
   rw [e1, F123c7_eq, gd hi, Int.toNat_natCast, compat_run, w1 (by omega)]
   cases hc : compat (l.getD i 0) (bif decide (s = 0) then l.getD i 0 else s) with
   | true =>
    rw [hc, cond_true] at hs
    exact .inl ⟨n, _, Nat.le_refl _, rfl, hs⟩
   | false =>
    rw [hc, cond_false] at hs
    exact .inr ⟨_, rfl, by rw [← hs]⟩) l.length 4000000 0 0 (by omega) (by omega) (by omega) rfl
 exact e
theorem comU_run {l : List Int} (hl : l.length ≤ 1000000) : F143.run [PK.v (Ty.int .i64).sl] [RK.v (Ty.int .i64), RK.v Ty.bool] 4000000 (l, ()) = some (((comT 0 l).1, (comT 0 l).2, ()), ()) := by
 rw [F143_run]
 obtain ⟨r, e, rfl⟩ := loop (fun n i s => F143c3 n l s i) l.length 2 0 (fun i s => comT s (l.drop i) = comT 0 l) (fun r => r = (((comT 0 l).1, (comT 0 l).2, ()), ()))
  (fun n s _ hs => ⟨_, by rw [F143c3_eq, cdf (by omega)], by
   rw [List.drop_length] at hs
   rw [← hs]; rfl⟩)
  (fun n i s hi hs => by
   rw [drop_cons hi, comT] at hs
   rw [F143c3_eq, cdt (by omega), gd hi, gd hi, F143c7_eq, gd hi, gd hi, Int.toNat_natCast, w1 (by omega)]
   unfold compat at hs
   generalize l.getD i 0 = x at hs ⊢
   by_cases h1 : x = 0
   ·subst h1
    refine .inl ⟨n, s, Nat.le_refl _, rfl, ?_⟩
    rw [← hs]
    by_cases h2 : s = 0
    ·subst h2; rfl
    ·rw [decide_eq_false h2]; rfl
   ·by_cases h2 : s = 0
    ·subst h2
     refine .inl ⟨n, x, Nat.le_refl _, ?_, ?_⟩
     ·rw [decide_eq_false h1]; rfl
     ·rw [← hs]; simp
    ·rw [decide_eq_false h2, decide_eq_false h1, cond_false, Bool.false_or] at hs
     rw [decide_eq_false h2, decide_eq_false h1]
     by_cases h3 : x = s
     ·refine .inl ⟨n, x, Nat.le_refl _, ?_, ?_⟩
      ·rw [decide_eq_true h3]; rfl
      ·rw [← hs, decide_eq_true h3, h3]; rfl
     ·refine .inr ⟨_, by rw [decide_eq_false h3]; rfl, ?_⟩
      rw [← hs, decide_eq_false h3]; rfl) l.length 4000000 0 0 (by omega) (by omega) (by omega) rfl
 exact e
def binT (op : Int) (l : List Int) : Int × Bool :=
 bif !decide ((l.length : Int) = 2) then (0, false) else
 bif decide (1 ≤ op) && decide (op ≤ 6) then (1, (comT 0 l).2) else
 bif decide (op = 7) || decide (op = 8) then (1, compat (l.getD 0 0) 1 && compat (l.getD 1 0) 1) else
 bif decide (op = 14) then (3, compat (l.getD 0 0) 3 && compat (l.getD 1 0) 3) else
 bif decide (op = 15) then (1, compat (l.getD 0 0) 3 && compat (l.getD 1 0) 3) else
 bif decide (op < 9) || decide (13 < op) then (0, false) else (2, compat (l.getD 0 0) 2 && compat (l.getD 1 0) 2)
theorem binT_run {op : Int} {l : List Int} (hl : l.length ≤ 1000000) : F122.run [PK.v (Ty.int .i64), PK.v (Ty.int .i64).sl] [RK.v (Ty.int .i64), RK.v Ty.bool] 4000000 (op, l, ()) = some (((binT op l).1, (binT op l).2, ()), ()) := by
 have h15 : ∀ n a b, l.length = 2 → F122c15 (n + 1) l a b = some ((b, (compat (l.getD 0 0) a && compat (l.getD 1 0) a), ()), ()) := by
  intro n a b h
  rw [F122c15_eq, if_pos (by omega), if_pos (by omega), compat_run]
  simp only [Option.bind_some]
  rw [compat_run, show Int.toNat 0 = 0 from rfl, show Int.toNat 1 = 1 from rfl]
  cases compat (l.getD 0 0) a <;> rfl
 rw [F122_run]
 unfold binT
 by_cases h2 : (l.length : Int) = 2
 ·have h2' : l.length = 2 := by omega
  rw [show F122c6 4000000 op l = _ from F122c6_eq 3999999 op l, comT_run hl]
  simp only [h15 3999998 _ _ h2', decide_eq_true h2, Bool.not_true, cond_false]
  cases decide (1 ≤ op) <;> cases decide (op ≤ 6) <;> cases decide (op = 7) <;> cases decide (op = 8) <;> cases decide (op = 14) <;> cases decide (op = 15) <;> cases decide (op < 9) <;> cases decide (13 < op) <;> rfl
 ·rw [decide_eq_false h2]; rfl
def caseV : List Int → Option (List Int)
 | [] => some []
 | [x] => some [x]
 | c :: v :: r => bif compat c 1 then (caseV r).map (v :: ·) else none
def caseT (l : List Int) : Int × Bool := bif decide ((l.length : Int) < 2) then (0, false) else match caseV l with
 | none => (0, false)
 | some vs => comT 0 vs
theorem case_loop {l : List Int} (hl : l.length ≤ 1000000) : ∀ (m n i : Nat) (vs : List Int), l.length - i ≤ m → 2 * m + 2 ≤ n → i ≤ l.length → i % 2 = 0 → vs.length ≤ i →
  F124c5 n l i vs = match caseV (l.drop i) with | none => some ((0, false, ()), ()) | some ws => some (((comT 0 (vs ++ ws)).1, (comT 0 (vs ++ ws)).2, ()), ())
 | m, 0, i, vs, _, h, _, _, _ => by omega
 | m, 1, i, vs, _, h, _, _, _ => by omega
 | m, n + 2, i, vs, hm, hn, hi, hp, hv => by
  rw [F124c5_eq]
  rcases Nat.lt_or_ge i l.length with h | h
  ·have ht : ((i : Int)).tmod 2 = 0 := by rw [Int.tmod_eq_emod_of_nonneg (by omega)]; omega
   rw [cdt (by omega), ht, cdt rfl, w1 (by omega)]
   rcases Nat.lt_or_ge (i + 1) l.length with h1 | h1
   ·rw [cdt (by omega), gd h, Int.toNat_natCast, compat_run, drop_cons h, drop_cons h1, caseV, Option.bind_some]
    cases compat (l.getD i 0) 1 with
    | false => rfl
    | true =>
     simp only [Bool.not_true, cond_false, cond_true]
     cases n with
     | zero => omega
     | succ n =>
      rw [F124c5_eq, cdt (by omega)]
      have ht : ((i + 1 : Nat) : Int).tmod 2 = 1 := by rw [Int.tmod_eq_emod_of_nonneg (by omega)]; omega
      rw [ht, cdf (by omega), F124c10_eq, gd h1, if_pos (by unfold lim; omega), Int.toNat_natCast, w1 (by omega), case_loop hl (m - 2) n (i + 1 + 1) _ (by omega) (by omega) (by omega) (by omega) (by simp; omega)]
      cases caseV (l.drop (i + 1 + 1)) with
      | none => rfl
      | some ws => simp
   ·have h2 : l.drop (i + 1) = [] := List.drop_eq_nil_of_le h1
    rw [cdf (by omega), F124c10_eq, gd h, if_pos (by unfold lim; omega), Int.toNat_natCast, w1 (by omega), drop_cons h, h2, caseV]
    cases n with
    | zero => omega
    | succ n => rw [F124c5_eq, cdf (by omega), comT_run (by simp; omega)]; rfl
  ·rw [cdf (by omega), List.drop_eq_nil_of_le h, comT_run (by omega)]
   simp [caseV]
theorem caseT_run {l : List Int} (hl : l.length ≤ 1000000) : F124.run [PK.v (Ty.int .i64).sl] [RK.v (Ty.int .i64), RK.v Ty.bool] 4000000 (l, ()) = some (((caseT l).1, (caseT l).2, ()), ()) := by
 rw [F124_run]
 unfold caseT
 cases decide ((l.length : Int) < 2) with
 | true => rfl
 | false =>
  simp only [cond_false]
  rw [show F124c5 4000000 l 0 [] = _ from case_loop hl l.length 4000000 0 [] (by omega) (by omega) (by omega) (by omega) (by simp)]
  rw [List.drop_zero]
  cases caseV l with
  | none => rfl
  | some ws => rfl
/-! ## Calls -/
def nLength : List Int := [108, 101, 110, 103, 116, 104]
def nUpper : List Int := [117, 112, 112, 101, 114]
def nLower : List Int := [108, 111, 119, 101, 114]
def nSubstr : List Int := [115, 117, 98, 115, 116, 114]
def nAbs : List Int := [97, 98, 115]
def nParity : List Int := [112, 97, 114, 105, 116, 121]
def nStarts : List Int := [115, 116, 97, 114, 116, 115, 95, 119, 105, 116, 104]
def nNullif : List Int := [110, 117, 108, 108, 105, 102]
def nCoalesce : List Int := [99, 111, 97, 108, 101, 115, 99, 101]
def nLeast : List Int := [108, 101, 97, 115, 116]
def nGreatest : List Int := [103, 114, 101, 97, 116, 101, 115, 116]
def sigT (x : List Int) : List Int × Int × Bool :=
 bif decide (x = nLength) then ([3], 2, true) else bif decide (x = nUpper) then ([3], 3, true) else bif decide (x = nLower) then ([3], 3, true) else
 bif decide (x = nSubstr) then ([3, 2, 2], 3, true) else bif decide (x = nAbs) then ([2], 2, true) else bif decide (x = nParity) then ([2], 2, true) else
 bif decide (x = nStarts) then ([3, 3], 1, true) else ([], 0, false)
theorem sig_run (x : List Int) : F114.run [PK.v Ty.str] [RK.own 3 (Ty.int .i64), RK.v (Ty.int .i64), RK.v Ty.bool] 4000000 (x, ()) = some (((sigT x).1, (sigT x).2.1, (sigT x).2.2, ()), ()) := by
 rw [F114_run, show F114c1 4000000 x = _ from F114c1_eq 3999999 x, show F114c14 3999999 = _ from F114c14_eq 3999998]
 unfold sigT nLength nUpper nLower nSubstr nAbs nParity nStarts
 generalize decide (x = [108, 101, 110, 103, 116, 104]) = b1
 generalize decide (x = [117, 112, 112, 101, 114]) = b2
 generalize decide (x = [108, 111, 119, 101, 114]) = b3
 generalize decide (x = [115, 117, 98, 115, 116, 114]) = b4
 generalize decide (x = [97, 98, 115]) = b5
 generalize decide (x = [112, 97, 114, 105, 116, 121]) = b6
 generalize decide (x = [115, 116, 97, 114, 116, 115, 95, 119, 105, 116, 104]) = b7
 cases b1 <;> cases b2 <;> cases b3 <;> cases b4 <;> cases b5 <;> cases b6 <;> cases b7 <;> rfl
theorem sig_len (x : List Int) : (sigT x).1.length ≤ 3 := by
 unfold sigT
 cases decide (x = nLength) <;> cases decide (x = nUpper) <;> cases decide (x = nLower) <;> cases decide (x = nSubstr) <;> cases decide (x = nAbs) <;> cases decide (x = nParity) <;> cases decide (x = nStarts) <;> decide
def genT (x : List Int) (n : Nat) : Bool :=
 (decide (x = nNullif) && decide ((n : Int) = 2)) || ((decide (x = nCoalesce) || decide (x = nLeast) || decide (x = nGreatest)) && decide (1 ≤ (n : Int)))
theorem gen_run (x : List Int) (n : Nat) : F112.run [PK.v Ty.str, PK.v (Ty.int .i64)] [RK.v Ty.bool] 4000000 (x, (n : Int), ()) = some ((genT x n, ()), ()) := by
 rw [F112_run]
 unfold genT nNullif nCoalesce nLeast nGreatest
 generalize decide (x = [110, 117, 108, 108, 105, 102]) = b1
 generalize decide (x = [99, 111, 97, 108, 101, 115, 99, 101]) = b2
 generalize decide (x = [108, 101, 97, 115, 116]) = b3
 generalize decide (x = [103, 114, 101, 97, 116, 101, 115, 116]) = b4
 cases b1 <;> cases b2 <;> cases b3 <;> cases b4 <;> cases decide ((n : Int) = 2) <;> rfl
def fitT : List Int → List Int → Bool
 | _, [] => true
 | [], _ :: _ => true
 | a :: l, p :: q => (decide (a = p) || decide (a = 0)) && fitT l q
def resT (x : List Int) (l : List Int) : Int × Bool :=
 bif decide (256 < (l.length : Int)) then (0, false) else bif genT x l.length then comT 0 l else
 bif !(sigT x).2.2 then (0, false) else bif !decide (((sigT x).1.length : Int) = l.length) then (0, false) else bif fitT l (sigT x).1 then ((sigT x).2.1, true) else (0, false)
theorem res_run {x : List Int} {l : List Int} (hl : l.length ≤ 1000000) : F125.run [PK.v Ty.str, PK.v (Ty.int .i64).sl] [RK.v (Ty.int .i64), RK.v Ty.bool] 4000000 (x, l, ()) = some (((resT x l).1, (resT x l).2, ()), ()) := by
 rw [F125_run, gen_run]
 unfold resT
 cases decide (256 < (l.length : Int)) with
 | true => rfl
 | false =>
  cases genT x l.length with
  | true =>
   simp only [Option.bind_some, cond_true, cond_false]
   rw [comU_run hl]; rfl
  | false =>
   simp only [Option.bind_some, cond_false]
   rw [sig_run]
   simp only [Option.bind_some]
   have h3 := sig_len x
   generalize (sigT x).2.1 = t
   generalize (sigT x).1 = p at h3
   cases (sigT x).2.2 with
   | false => rfl
   | true =>
    simp only [Bool.not_true, cond_false]
    by_cases h : (p.length : Int) = l.length
    ·rw [decide_eq_true h]
     simp only [Bool.not_true, cond_false]
     rw [show F125c8 4000000 l t p = _ from F125c8_eq 3999999 l t p]
     obtain ⟨r, e, rfl⟩ := loop (fun n i (_ : Unit) => F125c9 n l t i p) p.length 1 0 (fun i _ => fitT (l.drop i) (p.drop i) = fitT l p) (fun r => r = (((bif fitT l p then (t, true) else (0, false)).1, (bif fitT l p then (t, true) else (0, false)).2, ()), ()))
      (fun n s _ hs => ⟨_, by rw [F125c9_eq, cdf (by omega)], by
       rw [List.drop_length] at hs
       rw [← hs, show fitT (l.drop p.length) [] = true by cases l.drop p.length <;> rfl]; rfl⟩)
      (fun n i s hi hs => by
       have hi' : i < l.length := by omega
       rw [drop_cons hi, drop_cons hi', fitT] at hs
       rw [F125c9_eq, cdt (by omega), gd hi', gd hi, Int.toNat_natCast, w1 (by omega), gd hi']
       cases h1 : decide (l.getD i 0 = p.getD i 0) with
       | true =>
        rw [h1] at hs
        exact .inl ⟨n, (), Nat.le_refl _, rfl, by rw [← hs]; rfl⟩
       | false =>
        cases h2 : decide (l.getD i 0 = 0) with
        | true =>
         rw [h1, h2] at hs
         exact .inl ⟨n, (), Nat.le_refl _, rfl, by rw [← hs]; rfl⟩
        | false =>
         rw [h1, h2] at hs
         exact .inr ⟨_, rfl, by rw [← hs]; rfl⟩) p.length 3999999 0 () (by omega) (by omega) (by omega) rfl
     exact e
    ·rw [decide_eq_false h]; rfl
/-! ## Well typed -/
theorem valid_run (v : Val) : F120.run [PK.v (Ty.nm 0)] [RK.v Ty.bool] 4000000 (v, ()) = some ((valid v, ()), ()) := by
 rw [F120_run]
 unfold valid
 by_cases h0 : v.kind = 0
 ·rw [if_pos h0, cdt h0]; cases decide (v.int = 0) <;> rfl
 ·rw [if_neg h0, cdf h0]
  by_cases h1 : v.kind = 1
  ·rw [if_pos h1, cdt h1]; cases decide (v.int = 0) <;> cases decide (v.int = 1) <;> rfl
  ·rw [if_neg h1, cdf h1]
   by_cases h2 : v.kind = 2
   ·rw [if_pos h2, cdt h2]
   ·rw [if_neg h2, cdf h2]
    by_cases h3 : v.kind = 3
    ·rw [if_pos h3, cdt h3, show decide ((v.text.length : Int) ≤ 4096) = decide (v.text.length ≤ 4096) by rw [decide_eq_decide]; omega]
     cases decide (v.int = 0) <;> rfl
    ·rw [if_neg h3, cdf h3]
structure Flat (e : Ex) : Prop where
 value : e.kind ≠ 1 → e.value = zVal
 slot : e.kind ≠ 2 → e.slot = 0 ∧ e.table = []
 op : e.kind ≠ 5 → e.op = 0
 name : e.name = [] ∨ e.kind = 2 ∨ e.kind = 9
 distinct : e.distinct = false
 part : e.partitionBy = []
 ord : e.orderBy = []
 args : e.args.length ≤ 256
theorem flat_run (e : Ex) : ∃ b, F119.run [PK.v (Ty.nm 1)] [RK.v Ty.bool] 4000000 (e, ()) = some ((b, ()), ()) ∧ (b = true ↔ Flat e) := by
 have h3 : ∃ b, F119c3 4000000 e = some ((b, ()), ()) ∧ (b = true ↔ (e.name = [] ∨ e.kind = 2 ∨ e.kind = 9) ∧ e.distinct = false ∧ e.partitionBy = [] ∧ e.orderBy = [] ∧ e.args.length ≤ 256) := by
  rw [show F119c3 4000000 e = _ from F119c3_eq 3999999 e]
  have inner : ∃ b, (bif !e.distinct then
   bif decide ((↑e.partitionBy.length : Int) = (0 : Int)) then
    bif decide ((↑e.orderBy.length : Int) = (0 : Int)) then
     some ((decide ((↑e.args.length : Int) ≤ (256 : Int)), ()), ())
    else
     some ((false, ()), ())
   else
    some ((false, ()), ())
  else
   some ((false, ()), ()) : Option ((Bool × Unit) × Unit)) = some ((b, ()), ()) ∧ (b = true ↔ e.distinct = false ∧ e.partitionBy = [] ∧ e.orderBy = [] ∧ e.args.length ≤ 256) := by
   cases hd : e.distinct with
   | true => exact ⟨false, rfl, by simp⟩
   | false =>
    by_cases hp : e.partitionBy = []
    ·by_cases ho : e.orderBy = []
     ·rw [hp, ho]
      refine ⟨_, rfl, ?_⟩
      simp
      omega
     ·have : ¬ ((e.orderBy.length : Int) = 0) := fun h => ho (List.length_eq_zero_iff.1 (by omega))
      rw [hp, decide_eq_false this]
      exact ⟨false, rfl, by simp [ho]⟩
    ·have : ¬ ((e.partitionBy.length : Int) = 0) := fun h => hp (List.length_eq_zero_iff.1 (by omega))
     rw [decide_eq_false this]
     exact ⟨false, rfl, by simp [hp]⟩
  obtain ⟨b, h1, h2⟩ := inner
  by_cases hn : e.name = []
  ·rw [cdt hn]
   exact ⟨b, h1, by rw [h2]; simp [hn]⟩
  ·rw [cdf hn]
   by_cases hk : e.kind = 2
   ·rw [cdt hk]
    exact ⟨b, h1, by rw [h2]; simp [hk]⟩
   ·rw [cdf hk]
    by_cases hk9 : e.kind = 9
    ·rw [cdt hk9]
     exact ⟨b, h1, by rw [h2]; simp [hk9]⟩
    ·rw [cdf hk9]
     exact ⟨false, rfl, by simp [hn, hk, hk9]⟩
 obtain ⟨b, e3, h3⟩ := h3
 have fl : Flat e ↔ (e.kind ≠ 1 → e.value = zVal) ∧ (e.kind ≠ 2 → e.slot = 0 ∧ e.table = []) ∧ (e.kind ≠ 5 → e.op = 0) ∧ ((e.name = [] ∨ e.kind = 2 ∨ e.kind = 9) ∧ e.distinct = false ∧ e.partitionBy = [] ∧ e.orderBy = [] ∧ e.args.length ≤ 256) :=
  ⟨fun h => ⟨h.value, h.slot, h.op, h.name, h.distinct, h.part, h.ord, h.args⟩, fun ⟨a, b, c, d, e, f, g, h⟩ => ⟨a, b, c, d, e, f, g, h⟩⟩
 have hv : (decide (e.value.kind = 0) && (decide (e.value.int = 0) && (decide (e.value.text = []) && true))) = decide (e.value = zVal) := by
  cases hh : e.value with
  | mk a b c =>
   simp only [Bool.and_true]
   rw [← Bool.decide_and, ← Bool.decide_and, decide_eq_decide]
   unfold zVal
   simp
 have c5 : ∃ b, (bif !decide (e.kind = 5) then bif !decide (e.op = 0) then some ((false, ()), ()) else F119c3 4000000 e else F119c3 4000000 e) = some ((b, ()), ()) ∧ (b = true ↔ (e.kind ≠ 5 → e.op = 0) ∧ ((e.name = [] ∨ e.kind = 2 ∨ e.kind = 9) ∧ e.distinct = false ∧ e.partitionBy = [] ∧ e.orderBy = [] ∧ e.args.length ≤ 256)) := by
  rw [e3]
  by_cases hk : e.kind = 5
  ·exact ⟨b, by simp [hk], by rw [h3]; simp [hk]⟩
  ·by_cases ho : e.op = 0
   ·exact ⟨b, by simp [hk, ho], by rw [h3]; simp [hk, ho]⟩
   ·exact ⟨false, by simp [hk, ho], by simp [hk, ho]⟩
 obtain ⟨b5, e5, h5⟩ := c5
 rw [F119_run, hv, e5]
 by_cases hk1 : e.kind = 1
 ·have hk2 : e.kind ≠ 2 := by omega
  by_cases hs : e.slot = 0
  ·by_cases ht : e.table = []
   ·exact ⟨b5, by simp [hk1, hs, ht], by rw [h5, fl]; simp [hk1, hs, ht]⟩
   ·exact ⟨false, by simp [hk1, hs, ht], by rw [fl]; simp [hk1, hs, ht]⟩
  ·exact ⟨false, by simp [hk1, hs], by rw [fl]; simp [hk1, hs]⟩
 ·by_cases hv : e.value = zVal
  ·by_cases hk2 : e.kind = 2
   ·exact ⟨b5, by simp [hk2, hv], by rw [h5, fl]; simp [hk2, hv]⟩
   ·by_cases hs : e.slot = 0
    ·by_cases ht : e.table = []
     ·exact ⟨b5, by simp [hk1, hk2, hv, hs, ht], by rw [h5, fl]; simp [hk1, hk2, hv, hs, ht]⟩
     ·exact ⟨false, by simp [hk1, hk2, hv, hs, ht], by rw [fl]; simp [hk1, hk2, hv, hs, ht]⟩
    ·exact ⟨false, by simp [hk1, hk2, hv, hs], by rw [fl]; simp [hk1, hk2, hv, hs]⟩
  ·exact ⟨false, by simp [hk1, hv], by rw [fl]; simp [hk1, hv]⟩
def btype (ts : List Int) (e : Ex) (l : List Int) : Int × Bool :=
 bif decide (e.kind = 1) then (e.value.kind, valid e.value && decide ((l.length : Int) = 0)) else
 bif decide (e.kind = 2) then (bif decide (e.slot < 0) || decide ((ts.length : Int) ≤ e.slot) || decide (0 < (l.length : Int)) then (0, false) else (ts.getD e.slot.toNat 0, true)) else
 bif decide (e.kind = 3) then (1, decide ((l.length : Int) = 1) && compat (l.getD 0 0) 1) else
 bif decide (e.kind = 4) then (2, decide ((l.length : Int) = 1) && compat (l.getD 0 0) 2) else
 bif decide (e.kind = 5) then binT e.op l else
 bif decide (e.kind = 6) then (1, decide ((l.length : Int) = 1)) else
 bif decide (e.kind = 7) then (1, (comT 0 l).2 && decide (2 ≤ (l.length : Int))) else
 bif decide (e.kind = 8) then caseT l else
 bif decide (e.kind = 9) then resT e.name l else (0, false)
inductive WT (ts : List Int) : Ex → Prop
 | mk {e : Ex} (flat : Flat e) (type : btype ts e (e.args.map Ex.f_Type) = (e.f_Type, true)) (args : ∀ a ∈ e.args, WT ts a) : WT ts e
theorem WT.inv {ts : List Int} {e : Ex} (h : WT ts e) : Flat e ∧ btype ts e (e.args.map Ex.f_Type) = (e.f_Type, true) ∧ ∀ a ∈ e.args, WT ts a := by
 cases h with | mk a b c => exact ⟨a, b, c⟩
theorem node_run (g : G84) (ts : List Int) (n : Nat) (e : Ex) (l : List Int) (hl : l.length ≤ 1000000) : ∀ i : Int, ¬ (i < (e.args.length : Int)) → F84c5 g (n + 2) ts i e l = some (((btype ts e l).1, (btype ts e l).2, ()), ()) := by
 intro i hi
 rw [F84c5_eq, cdf hi]
 unfold btype
 by_cases h1 : e.kind = 1
 ·rw [cdt h1, cdt h1, valid_run]; cases valid e.value <;> rfl
 rw [cdf h1, cdf h1]
 by_cases h2 : e.kind = 2
 ·rw [cdt h2, cdt h2]
  by_cases h3 : e.slot < 0
  ·rw [decide_eq_true h3]; rfl
  ·by_cases h4 : (ts.length : Int) ≤ e.slot
   ·rw [decide_eq_false h3, decide_eq_true h4]; rfl
   ·rw [decide_eq_false h3, decide_eq_false h4]
    by_cases h5 : 0 < (l.length : Int)
    ·rw [decide_eq_true h5]; rfl
    ·rw [decide_eq_false h5, F84c17_eq, if_pos (by omega), if_pos (by omega)]; rfl
 rw [cdf h2, cdf h2]
 by_cases h3 : e.kind = 3
 ·rw [cdt h3, cdt h3]
  by_cases h4 : (l.length : Int) = 1
  ·rw [decide_eq_true h4, if_pos (by omega), compat_run]; rfl
  ·rw [decide_eq_false h4]; rfl
 rw [cdf h3, cdf h3]
 by_cases h4 : e.kind = 4
 ·rw [cdt h4, cdt h4]
  by_cases h4 : (l.length : Int) = 1
  ·rw [decide_eq_true h4, if_pos (by omega), compat_run]; rfl
  ·rw [decide_eq_false h4]; rfl
 rw [cdf h4, cdf h4]
 by_cases h5 : e.kind = 5
 ·rw [cdt h5, cdt h5, binT_run hl]; rfl
 rw [cdf h5, cdf h5]
 by_cases h6 : e.kind = 6
 ·rw [cdt h6, cdt h6]
 rw [cdf h6, cdf h6]
 by_cases h7 : e.kind = 7
 ·rw [cdt h7, cdt h7, comT_run hl]
  cases (comT 0 l).2 <;> rfl
 rw [cdf h7, cdf h7]
 by_cases h8 : e.kind = 8
 ·rw [cdt h8, cdt h8, caseT_run hl]; rfl
 rw [cdf h8, cdf h8]
 by_cases h9 : e.kind = 9
 ·rw [cdt h9, cdt h9, res_run hl]; rfl
 rw [cdf h9, cdf h9]
theorem bound_step {g : G84} {ts : List Int} {e : Ex} (ha : ∀ a ∈ e.args, ∃ t b, g (a, ts, ()) = some ((t, b, ()), ()) ∧ ((b = true ∧ t = a.f_Type) ↔ WT ts a)) (hs : sz e ≤ 1000000) :
  ∃ t b, (F84 g).run [PK.v (Ty.nm 1), PK.v (Ty.int .i64).sl] [RK.v (Ty.int .i64), RK.v Ty.bool] 4000000 (e, ts, ()) = some ((t, b, ()), ()) ∧ ((b = true ∧ t = e.f_Type) ↔ WT ts e) := by
 have h1 := len_arg e
 obtain ⟨b, hb, hf⟩ := flat_run e
 rw [F84_run, hb, Option.bind_some]
 cases b with
 | false => exact ⟨0, false, rfl, (fun h => by cases h.1), (fun h => absurd (hf.2 h.inv.1) (by simp))⟩
 | true =>
  simp only [Bool.not_true, cond_false]
  obtain ⟨r, e1, t, b, rfl, hr⟩ := loop (fun n i s => F84c5 g n ts i e s) e.args.length 2 0 (fun i s => s = (e.args.take i).map Ex.f_Type ∧ ∀ a ∈ e.args.take i, WT ts a) (fun r => ∃ t b, r = ((t, b, ()), ()) ∧ ((b = true ∧ t = e.f_Type) ↔ WT ts e))
   (fun n s _ hs => by
    rw [List.take_length] at hs
    refine ⟨_, node_run g ts n e s (by rw [hs.1, List.length_map]; omega) _ (by omega), _, _, rfl, ?_⟩
    rw [hs.1]
    constructor
    ·intro h
     exact .mk (hf.1 rfl) (by rw [← h.1, ← h.2]) hs.2
    ·intro h
     rw [h.inv.2.1]
     exact ⟨rfl, rfl⟩)
   (fun n i s hi hs => by
    obtain ⟨t, b, h2, h3⟩ := ha _ (getD_mem hi zEx)
    rw [F84c5_eq, cdt (by omega), gd hi, Int.toNat_natCast, h2, Option.bind_some, gd hi]
    have hlen : s.length = i := by rw [hs.1, List.length_map, List.length_take]; omega
    cases b with
    | false => exact .inr ⟨_, rfl, _, _, rfl, (fun h => by cases h.1), (fun h => absurd (h3.2 (h.inv.2.2 _ (getD_mem hi zEx))).1 (by simp))⟩
    | true =>
     simp only [Bool.not_true, cond_false]
     by_cases ht : t = (e.args.getD i zEx).f_Type
     ·rw [decide_eq_true ht, F84c10_eq, if_pos (by unfold lim; omega), w1 (by omega)]
      refine .inl ⟨n, _, Nat.le_refl _, rfl, ?_, ?_⟩
      ·rw [hs.1, List.take_succ_eq_append_getElem hi, List.map_append, ht, getD_eq hi]; rfl
      ·intro a hm
       rw [List.take_succ_eq_append_getElem hi] at hm
       rcases List.mem_append.1 hm with h | h
       ·exact hs.2 a h
       ·rw [List.mem_singleton.1 h, ← getD_eq hi (d := zEx)]
        exact h3.1 ⟨rfl, ht⟩
     ·rw [decide_eq_false ht]
      exact .inr ⟨_, rfl, _, _, rfl, (fun h => by cases h.1), (fun h => absurd (h3.2 (h.inv.2.2 _ (getD_mem hi zEx))).2 ht)⟩) e.args.length 4000000 0 [] (by omega) (by omega) (by omega) ⟨rfl, by simp⟩
  exact ⟨t, b, e1, hr⟩
theorem bound_k {ts : List Int} : ∀ (k : Nat) (e : Ex), sz e ≤ k → sz e ≤ 1000000 → ∃ t b, r84 k (e, ts, ()) = some ((t, b, ()), ()) ∧ ((b = true ∧ t = e.f_Type) ↔ WT ts e)
 | 0, e, h, _ => by have := sz_pos e; omega
 | k + 1, e, h, hs => by
  rw [r84_succ]
  exact bound_step (fun a ha => bound_k k a (by have := sz_arg ha; omega) (by have := sz_arg ha; omega)) hs
theorem bound_run {ts : List Int} {e : Ex} (h : sz e ≤ 100000) : ∃ b, F49.run [PK.v (Ty.nm 1), PK.v (Ty.int .i64).sl] [RK.v Ty.bool] 4000000 (e, ts, ()) = some ((b, ()), ()) ∧ (b = true ↔ dep e ≤ 32 ∧ WT ts e) := by
 rw [F49_run, depth_run h, Option.bind_some]
 simp only []
 by_cases hd : dep e ≤ 32
 ·rw [cdf (by omega)]
  obtain ⟨t, b, h1, h2⟩ := bound_k (ts := ts) 100000 e h (by omega)
  rw [show R84 (e, ts, ()) = _ from h1]
  cases b with
  | false => exact ⟨false, rfl, (fun h => by cases h), (fun h => by cases (h2.2 h.2).1)⟩
  | true =>
   refine ⟨_, rfl, ?_⟩
   simp only [true_and] at h2
   rw [decide_eq_true_eq, h2]
   exact ⟨fun h => ⟨hd, h⟩, fun h => h.2⟩
 ·rw [cdt (by omega)]
  exact ⟨false, rfl, (fun h => by cases h), (fun h => absurd h.1 hd)⟩
def typs : List Int := [2, 2, 3, 1, 2, 1, 3, 0]
structure Fine (e : Ex) : Prop where
 nod : nod e < 200
 dep : dep e ≤ 32
 wt : WT typs e
end Go.Proofs.Tryz
