/- Law 42: the functions that work element by element, further. -/
import Derived.Test.YtlkllggdiakpbaaGreatDoorL42Elem
set_option linter.unusedVariables false
set_option linter.unusedSimpArgs false
namespace Go.Proofs.Tryz
open Go.Eng
/-! ## isNull -/
theorem isNull_run {t : Int} {l : List Val} (hl : l.length ≤ 1000) : F58.run [PK.v (Ty.nm 3)] [RK.v (Ty.nm 3)] 4000000 (vecOf t l, ()) = some ((vecOf 1 (l.map fun v => vbool (decide (v.kind = 0))), ()), ()) := by
 have hn := vec_len t l
 rw [F58_run, hn, if_pos (by unfold lim; omega), if_pos (by unfold lim; omega), Int.toNat_natCast]
 let R : Nat → Val := fun j => vbool (decide ((l.getD j zVal).kind = 0))
 have hR : (List.range l.length).map R = l.map fun v => vbool (decide (v.kind = 0)) := range_map (fun v => vbool (decide (v.kind = 0))) l
 obtain ⟨r, e1, rfl⟩ := loop (fun n i (s : List Val) => F58c3 n (vecOf t l).nulls (l.length : Int) i 0 1 [] [] [] (s.map Val.int) [] (s.map isN)) l.length 1 0 (fun i s => s = upto (vbool false) R l.length i) (fun r => r = ((vecOf 1 (l.map fun v => vbool (decide (v.kind = 0))), ()), ()))
  (fun n s _ hs => by
   subst hs
   exact ⟨_, by rw [F58c3_eq, cdf (by omega), upto_full, hR]; rfl, rfl⟩)
  (fun n i s hi hs => by
   subst hs
   refine .inl ⟨n, _, Nat.le_refl _, ?_, rfl⟩
   rw [F58c3_eq, cdt (by omega), gd (by omega), Int.toNat_natCast, vec_null hi, w1 (by omega), upto_keep (f := isN) (d := vbool false) (R := R) hi rfl]
   by_cases h0 : (l.getD i zVal).kind = 0
   ·have : R i = vbool true := by show vbool _ = _; rw [decide_eq_true h0]
    rw [cdt h0, gd (by simp only [List.length_map, upto_len]; omega), upto_put hi (by rw [this]; rfl)]
   ·have : R i = vbool false := by show vbool _ = _; rw [decide_eq_false h0]
    rw [cdf h0, upto_keep (f := Val.int) hi (by rw [this])]) l.length 4000000 0 (List.replicate l.length (vbool false)) (by omega) (by omega) (by omega) (upto_zero ..).symm
 simp only [List.map_replicate] at e1
 exact e1
/-! ## and, or -/
def jun (c : Int) (a b : Val) : Val := bif decide (c = 0) then andL false [a, b] else orL false [a, b]
theorem jun_cases {c : Int} {a b : Val} (hc : c = 0 ∨ c = 1) (ha : valid a = true) (hb : valid b = true) :
  jun c a b = (bif decide (tv a = c) then vbool (decide (c = 1)) else bif decide (tv b = c) then vbool (decide (c = 1)) else bif decide (0 ≤ tv a) && decide (0 ≤ tv b) then vbool (decide (c = 0)) else zVal) := by
 have u : ∀ v : Val, v.kind ≠ 1 → isT v = false ∧ isF v = false := fun v h => by unfold isT isF; rw [decide_eq_false h]; exact ⟨rfl, rfl⟩
 unfold jun
 rcases hc with rfl | rfl <;> rcases tv_cases ha with ⟨h1, h2⟩ | ⟨h1, h2⟩ | ⟨h1, h2⟩ <;> rcases tv_cases hb with ⟨k1, k2⟩ | ⟨k1, k2⟩ | ⟨k1, k2⟩ <;>
  simp only [and2x, or2x, h2, k2] <;> (try rw [(u a h1).1, (u a h1).2]) <;> (try rw [(u b k1).1, (u b k1).2]) <;> (try subst h1) <;> (try subst k1) <;> rfl
theorem junction_run {c t u : Int} {l m : List Val} (hc : c = 0 ∨ c = 1) (h : Col t l) (k : Col u m) (hlm : l.length = m.length) (hl : l.length ≤ 1000) :
  F93.run [PK.v (Ty.nm 3), PK.v (Ty.nm 3), PK.v (Ty.int .i64)] [RK.ag 3 AGV] 4000000 (vecOf t l, vecOf u m, c, ()) = some ((tup (vecOf 1 ((List.range l.length).map fun j => jun c (l.getD j zVal) (m.getD j zVal))), ()), ()) := by
 have hn := vec_len t l
 rw [F93_run, show ∀ a b c d e f g, F93c1 4000000 a b c d e f g = _ from fun a b c d e f g => F93c1_eq 3999999 a b c d e f g, hn, bnd (nulls_run (by unfold isTyp; omega) (by omega))]
 simp only [tup, vec1, List.length_map, List.length_replicate]
 let R : Nat → Val := fun j => jun c (l.getD j zVal) (m.getD j zVal)
 obtain ⟨r, e1, rfl⟩ := loop (fun n i (s : List Val) => F93c3 n c (l.length : Int) i (vecOf t l) (vecOf u m) 0 1 [] [] [] (s.map Val.int) [] (s.map isN)) l.length 2 0 (fun i s => s = upto zVal R l.length i) (fun r => r = ((tup (vecOf 1 ((List.range l.length).map R)), ()), ()))
  (fun n s _ hs => by
   subst hs
   exact ⟨_, by rw [F93c3_eq, cdf (by omega), upto_full]; rfl, rfl⟩)
  (fun n i s hi hs => by
   subst hs
   refine .inl ⟨n, _, Nat.le_refl _, ?_, rfl⟩
   obtain ⟨hv, hf⟩ := h.get hi
   have hi' : i < m.length := by omega
   obtain ⟨kv, kf⟩ := k.get hi'
   have hJ : R i = _ := jun_cases hc hv kv
   have g1 : i < ((upto zVal R l.length i).map isN).length := by simp only [List.length_map, upto_len]; omega
   have g2 : i < ((upto zVal R l.length i).map Val.int).length := by simp only [List.length_map, upto_len]; omega
   rw [F93c3_eq, cdt (by omega), bnd (truth_run h hi), bnd (truth_run k hi')]
   simp only [F93c10_eq, w1 (show i < 4611686018427387904 by omega), Int.toNat_natCast, gd g1, gd g2]
   by_cases c1 : tv (l.getD i zVal) = c
   ·have : R i = vbool (decide (c = 1)) := by rw [hJ, cdt c1]
    rw [cdt c1, upto_put hi (by rw [this]; rcases hc with rfl | rfl <;> rfl), upto_put hi (by rw [this]; rfl)]
   ·rw [cdf c1]
    by_cases c2 : tv (m.getD i zVal) = c
    ·have : R i = vbool (decide (c = 1)) := by rw [hJ, cdf c1, cdt c2]
     rw [cdt c2, upto_put hi (by rw [this]; rcases hc with rfl | rfl <;> rfl), upto_put hi (by rw [this]; rfl)]
    ·rw [cdf c2]
     rw [cdf c1, cdf c2] at hJ
     cases c3 : decide (0 ≤ tv (l.getD i zVal)) with
     | false =>
      rw [c3, Bool.false_and, cf] at hJ
      rw [cf, upto_keep (f := Val.int) hi (by rw [hJ]), upto_keep (f := isN) hi (by rw [hJ])]
     | true =>
      rw [ct]
      cases c4 : decide (0 ≤ tv (m.getD i zVal)) with
      | false =>
       rw [c3, c4, Bool.and_false, cf] at hJ
       rw [cf, upto_keep (f := Val.int) hi (by rw [hJ]), upto_keep (f := isN) hi (by rw [hJ])]
      | true =>
       rw [c3, c4, Bool.and_self, ct] at hJ
       rw [ct, upto_put hi (by rw [hJ]; rcases hc with rfl | rfl <;> rfl), upto_put hi (by rw [hJ]; rfl)]) l.length 3999999 0 (List.replicate l.length zVal) (by omega) (by omega) (by omega) (upto_zero ..).symm
 exact e1
/-! ## Comparing -/
theorem cmpI_run (a b : Int) : F146.run [PK.v (Ty.int .i64), PK.v (Ty.int .i64)] [RK.v (Ty.int .i64)] 4000000 (a, b, ()) = some ((sgn (decide (a < b)) (decide (b < a)), ()), ()) := by
 have h : ∀ a, F167.run [PK.v (Ty.int .i64)] [RK.v Ty.bool] 4000000 (a, ()) = some ((false, ()), ()) := fun a => by rw [F167_run]; simp
 rw [F146_run, bnd (h a), bnd (h b)]
 unfold sgn
 cases decide (a < b) <;> cases decide (b < a) <;> rfl
theorem cmpT_run (a b : List Int) : F145.run [PK.v Ty.str, PK.v Ty.str] [RK.v (Ty.int .i64)] 4000000 (a, b, ()) = some ((sgn (strLt a b) (strLt b a), ()), ()) := by
 have h : ∀ a, F166.run [PK.v Ty.str] [RK.v Ty.bool] 4000000 (a, ()) = some ((false, ()), ()) := fun a => by rw [F166_run]; simp
 rw [F145_run, bnd (h a), bnd (h b)]
 unfold sgn
 cases strLt a b <;> cases strLt b a <;> rfl
theorem holds_run {op c : Int} (h : 1 ≤ op ∧ op ≤ 6) : F144.run [PK.v (Ty.int .i64), PK.v (Ty.int .i64)] [RK.v Ty.bool] 4000000 (op, c, ()) = some ((holdsC op c, ()), ()) := by
 rw [F144_run]; unfold holdsC
 have : op = 1 ∨ op = 2 ∨ op = 3 ∨ op = 4 ∨ op = 5 ∨ op = 6 := by omega
 rcases this with rfl | rfl | rfl | rfl | rfl | rfl <;> rfl
theorem skip_run {t u : Int} {l m : List Val} {i : Nat} (hi : i < l.length) (hi' : i < m.length) :
  F126.run [PK.v (Ty.int .i64), PK.rp (Ty.nm 3), PK.rp (Ty.nm 3)] [RK.v Ty.bool] 4000000 ((i : Int), vecOf t l, vecOf u m, ()) = some (((isN (l.getD i zVal) || isN (m.getD i zVal)), ()), ()) := by
 rw [F126_run, gd (by rw [vec_len]; exact hi), Int.toNat_natCast, vec_null hi, gd (by rw [vec_len]; exact hi'), vec_null hi']
 unfold isN
 cases decide ((l.getD i zVal).kind = 0) <;> rfl
end Go.Proofs.Tryz
