/- Law 42: vectors as lists of values. -/
import Derived.Test.YtlkllggdiakpbaaGreatDoorL42Ex
import Derived.Test.YtlkllggdiakpbaaGreatDoorL42Eqs
set_option linter.unusedVariables false
set_option linter.unusedSimpArgs false
namespace Go.Proofs.Tryz
open Go.Eng
def isNum (t : Int) : Bool := decide (t = 1) || decide (t = 2)
def vecOf (t : Int) (l : List Val) : Vec := ⟨t, bif isNum t then l.map Val.int else [], bif decide (t = 3) then l.map Val.text else [], l.map fun v => decide (v.kind = 0)⟩
def tup (v : Vec) : HC NN.ρ AGV := (v.f_Type, v.ints, v.texts, v.nulls, ())
theorem vec_type (t : Int) (l : List Val) : (vecOf t l).f_Type = t := rfl
theorem vec_nil (t : Int) : vecOf t [] = ⟨t, [], [], []⟩ := by unfold vecOf; cases isNum t <;> cases decide (t = 3) <;> rfl
theorem vec_len (t : Int) (l : List Val) : (vecOf t l).nulls.length = l.length := by simp [vecOf]
theorem push_run {t : Int} {l : List Val} {x : Val} (hl : l.length ≤ 1000000) :
  F87.run [PK.ag 3 AGV, PK.v (Ty.nm 0)] [RK.ag 3 AGV] 4000000 ((t, (vecOf t l).ints, (vecOf t l).texts, (vecOf t l).nulls, ()), x, ()) = some ((tup (vecOf t (l ++ [x])), ()), ()) := by
 have h0 : (vecOf t l).nulls.length + 1 ≤ lim := by rw [vec_len]; unfold lim; omega
 rw [F87_run, show ∀ a b c d e f g h i, F87c1 4000000 a b c d e f g h i = _ from fun a b c d e f g h i => F87c1_eq 3999999 a b c d e f g h i]
 simp only [F87c8_eq 3999998]
 rw [if_pos h0]
 by_cases h1 : t = 1
 ·subst h1
  rw [cdt rfl, cdt rfl, if_pos (by simp [vecOf, isNum, lim]; omega)]
  simp [vecOf, isNum, tup]
 ·rw [cdf h1]
  by_cases h2 : t = 2
  ·subst h2
   rw [cdt rfl, if_pos (by simp [vecOf, isNum, lim]; omega)]
   simp [vecOf, isNum, tup]
  ·rw [cdf h2]
   by_cases h3 : t = 3
   ·subst h3
    rw [cdt rfl, if_pos (by simp [vecOf, isNum, lim]; omega)]
    simp [vecOf, isNum, tup]
   ·rw [cdf h3]
    simp [vecOf, isNum, tup, h1, h2, h3]
def fitsV (t : Int) (v : Val) : Prop := v.kind = 0 ∨ v.kind = t
def isTyp (t : Int) : Prop := 0 ≤ t ∧ t ≤ 3
theorem typ_run {t : Int} (h : isTyp t) : F85.run [PK.v (Ty.int .i64)] [RK.v Ty.bool] 4000000 (t, ()) = some ((true, ()), ()) := by
 rw [F85_run, cdt h.1, decide_eq_true h.2]
theorem fitq_run {t : Int} {v : Val} (h : fitsV t v) : F86.run [PK.v (Ty.nm 0), PK.v (Ty.int .i64)] [RK.v Ty.bool] 4000000 (v, t, ()) = some ((true, ()), ()) := by
 rw [F86_run]
 rcases h with h | h
 ·rw [cdt h]
 ·rw [decide_eq_true h]; cases decide (v.kind = 0) <;> rfl
theorem fromValues_run {t : Int} {l : List Val} (ht : isTyp t) (hf : ∀ v ∈ l, fitsV t v) (hl : l.length ≤ 1000000) :
  F90.run [PK.v (Ty.int .i64), PK.v (Ty.nm 0).sl] [RK.ag 3 AGV, RK.v (Ty.int .i64)] 4000000 (t, l, ()) = some ((tup (vecOf t l), 0, ()), ()) := by
 rw [F90_run, show ∀ a b c d e f, F90c1 4000000 a b c d e f = _ from fun a b c d e f => F90c1_eq 3999999 a b c d e f, typ_run ht]
 simp only [Option.bind_some, Bool.not_true, cond_false]
 obtain ⟨r, e1, rfl⟩ := loop (fun n i s => F90c5 n t l (l.length : Int) i 0 t [] [] [] (vecOf t s).ints (vecOf t s).texts (vecOf t s).nulls) l.length 1 0 (fun i s => s = l.take i) (fun r => r = ((tup (vecOf t l), 0, ()), ()))
  (fun n s _ hs => by
   rw [List.take_length] at hs
   subst hs
   exact ⟨_, by rw [F90c5_eq, cdf (by omega)]; rfl, rfl⟩)
  (fun n i s hi hs => by
   rw [F90c5_eq, cdt (by omega), gd hi, Int.toNat_natCast, fitq_run (hf _ (getD_mem hi _))]
   simp only [Option.bind_some, Bool.not_true, cond_false]
   have hsl : s.length = i := by rw [hs, List.length_take]; omega
   rw [push_run (by omega), w1 (by omega)]
   refine .inl ⟨n, s ++ [l.getD i zVal], Nat.le_refl _, by simp only [Option.bind_some, tup, vec_type], ?_⟩
   rw [List.take_succ_eq_append_getElem hi, hs, getD_eq hi]) l.length 3999999 0 [] (by omega) (by omega) (by omega) rfl
 simp only [vec_nil] at e1
 exact e1
/-! ## Constants -/
theorem const_run {t : Int} {v : Val} {n : Nat} (ht : isTyp t) (hf : fitsV t v) (hn : n ≤ 1000000) :
  F51.run [PK.v (Ty.int .i64), PK.v (Ty.nm 0), PK.v (Ty.int .i64)] [RK.ag 3 AGV] 4000000 (t, v, (n : Int), ()) = some ((tup (vecOf t (List.replicate n v)), ()), ()) := by
 rw [F51_run, show ∀ a b c d e f g, F51c1 4000000 a b c d e f g = _ from fun a b c d e f g => F51c1_eq 3999999 a b c d e f g, typ_run ht]
 simp only [Option.bind_some, Bool.not_true, cond_false]
 rw [show ∀ a b c d e f g, F51c3 3999999 a b c d e f g = _ from fun a b c d e f g => F51c3_eq 3999998 a b c d e f g, fitq_run hf]
 simp only [Option.bind_some, Bool.not_true, cond_false]
 rw [show ∀ a b c d e f g, F51c5 3999998 a b c d e f g = _ from fun a b c d e f g => F51c5_eq 3999997 a b c d e f g, show imax 0 (n : Int) = (n : Int) by unfold imax; split <;> omega]
 obtain ⟨r, e1, rfl⟩ := loop (fun k i s => F51c7 k (n : Int) i v 0 t [] [] [] (vecOf t s).ints (vecOf t s).texts (vecOf t s).nulls) n 1 0 (fun i s => s = List.replicate i v) (fun r => r = ((tup (vecOf t (List.replicate n v)), ()), ()))
  (fun k s _ hs => by
   subst hs
   exact ⟨_, by rw [F51c7_eq, cdf (by omega)]; rfl, rfl⟩)
  (fun k i s hi hs => by
   rw [F51c7_eq, cdt (by omega)]
   have hsl : s.length = i := by rw [hs, List.length_replicate]
   rw [push_run (by omega), w1 (by omega)]
   refine .inl ⟨k, s ++ [v], Nat.le_refl _, by simp only [Option.bind_some, tup, vec_type], ?_⟩
   rw [hs, List.replicate_succ']) n 3999997 0 [] (by omega) (by omega) (by omega) rfl
 simp only [vec_nil] at e1
 exact e1
theorem nulls_run {t : Int} {n : Nat} (ht : isTyp t) (hn : n ≤ 1000000) :
  F62.run [PK.v (Ty.int .i64), PK.v (Ty.int .i64)] [RK.ag 3 AGV] 4000000 (t, (n : Int), ()) = some ((tup (vecOf t (List.replicate n zVal)), ()), ()) := by
 rw [F62_run, show ∀ a b c d e f, F62c1 4000000 a b c d e f = _ from fun a b c d e f => F62c1_eq 3999999 a b c d e f]
 rw [bnd (const_run ht (.inl rfl) hn)]
end Go.Proofs.Tryz
