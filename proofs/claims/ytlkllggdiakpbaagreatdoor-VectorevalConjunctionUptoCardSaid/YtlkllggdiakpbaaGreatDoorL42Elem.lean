/- Law 42: the functions that work element by element. -/
import Derived.Test.YtlkllggdiakpbaaGreatDoorL42Vec
import Derived.Test.YtlkllggdiakpbaaGreatDoorL42Pres
set_option linter.unusedVariables false
set_option linter.unusedSimpArgs false
namespace Go.Proofs.Tryz
open Go.Eng
/-! ## Columns of valid values -/
structure Col (t : Int) (l : List Val) : Prop where
 typ : isTyp t
 valid : ∀ v ∈ l, valid v = true
 fits : ∀ v ∈ l, fitsV t v
theorem Col.get {t : Int} {l : List Val} (h : Col t l) {i : Nat} (hi : i < l.length) : Go.Proofs.Tryz.valid (l.getD i zVal) = true ∧ fitsV t (l.getD i zVal) := ⟨h.valid _ (getD_mem hi _), h.fits _ (getD_mem hi _)⟩
theorem map_getD {α β : Type} {f : α → β} {l : List α} {i : Nat} {d : β} {e : α} (h : i < l.length) : (l.map f).getD i d = f (l.getD i e) := by
 rw [getD_eq (by simpa using h), List.getElem_map, getD_eq h]
theorem vec_null {t : Int} {l : List Val} {i : Nat} (h : i < l.length) : (vecOf t l).nulls.getD i false = decide ((l.getD i zVal).kind = 0) := map_getD h
theorem vec_ints {t : Int} {l : List Val} (h : isNum t = true) : (vecOf t l).ints = l.map Val.int := by unfold vecOf; rw [h]; rfl
theorem vec_texts (l : List Val) : (vecOf 3 l).texts = l.map Val.text := rfl
theorem valid_k3 {v : Val} (h : valid v = true) (h3 : v.kind = 3) : v = ⟨3, 0, v.text⟩ := by
 unfold valid at h
 rw [if_neg (by omega), if_neg (by omega), if_neg (by omega), if_pos h3] at h
 simp only [Bool.and_eq_true, decide_eq_true_eq] at h
 cases v; simp_all
theorem valid_kn {v : Val} (h : valid v = true) (h3 : v.kind = 1 ∨ v.kind = 2) : v = ⟨v.kind, v.int, []⟩ := by
 unfold valid at h
 rcases h3 with h3 | h3
 ·rw [if_neg (by omega), if_pos h3] at h
  simp only [Bool.and_eq_true, decide_eq_true_eq] at h
  cases v; simp_all
 ·rw [if_neg (by omega), if_neg (by omega), if_pos h3] at h
  simp only [decide_eq_true_eq] at h
  cases v; simp_all
theorem num_typ {t : Int} (h : isTyp t) (h0 : t ≠ 0) (h3 : t ≠ 3) : isNum t = true := by
 unfold isNum
 obtain ⟨a, b⟩ := h
 have : t = 1 ∨ t = 2 := by omega
 rcases this with rfl | rfl <;> rfl
theorem at_run {t : Int} {l : List Val} {i : Nat} (h : Col t l) (hi : i < l.length) :
  F40.run [PK.v (Ty.nm 3), PK.v (Ty.int .i64)] [RK.v (Ty.nm 0)] 4000000 (vecOf t l, (i : Int), ()) = some ((l.getD i zVal, ()), ()) := by
 obtain ⟨hv, hf⟩ := h.get hi
 have hn := vec_len t l
 rw [F40_run, cdf (by omega), cdf (by omega), gd (by omega), Int.toNat_natCast, vec_null hi]
 by_cases h0 : (l.getD i zVal).kind = 0
 ·rw [cdt h0, valid_null hv h0]
 ·rw [cdf h0, show ∀ a b c, F40c3 4000000 a b c = _ from fun a b c => F40c3_eq 3999999 a b c]
  have hk : (l.getD i zVal).kind = t := hf.resolve_left h0
  by_cases h3 : t = 3
  ·subst h3
   rw [cdt (vec_type _ _), Int.toNat_natCast, vec_texts, gd (by rw [List.length_map]; exact hi), map_getD (e := zVal) hi]
   rw [← valid_k3 hv hk]
  ·have hnum := num_typ h.typ (by omega) h3
   rw [cdf (by rw [vec_type]; exact h3), Int.toNat_natCast, vec_ints hnum, gd (by rw [List.length_map]; exact hi), map_getD (e := zVal) hi, vec_type]
   have := valid_kn hv (by have := h.typ; unfold isTyp at this; omega)
   rw [hk] at this
   rw [← this]
def tv (v : Val) : Int := bif decide (v.kind = 1) then v.int else -1
theorem truth_run {t : Int} {l : List Val} {i : Nat} (h : Col t l) (hi : i < l.length) :
  F38.run [PK.v (Ty.nm 3), PK.v (Ty.int .i64)] [RK.v (Ty.int .i64)] 4000000 (vecOf t l, (i : Int), ()) = some ((tv (l.getD i zVal), ()), ()) := by
 obtain ⟨hv, hf⟩ := h.get hi
 have hn := vec_len t l
 rw [F38_run, vec_type]
 unfold tv
 by_cases h1 : t = 1
 ·subst h1
  rw [decide_eq_true rfl, Bool.not_true, cf, gd (by omega), Int.toNat_natCast, vec_null hi]
  by_cases h0 : (l.getD i zVal).kind = 0
  ·rw [cdt h0, cdf (by omega)]
  ·rw [cdf h0, show ∀ a b, F38c3 4000000 a b = _ from fun a b => F38c3_eq 3999999 a b, vec_ints rfl, gd (by rw [List.length_map]; exact hi), Int.toNat_natCast, map_getD (e := zVal) hi, cdt (hf.resolve_left h0)]
 ·rw [decide_eq_false h1, Bool.not_false, ct, cdf]
  rcases hf with hf | hf <;> omega
/-! ## Lists that are filled from the left -/
def upto (d : Val) (R : Nat → Val) (n i : Nat) : List Val := (List.range n).map fun j => if j < i then R j else d
theorem upto_len (d : Val) (R : Nat → Val) (n i : Nat) : (upto d R n i).length = n := by simp [upto]
theorem upto_zero (d : Val) (R : Nat → Val) (n : Nat) : upto d R n 0 = List.replicate n d := by
 unfold upto
 rw [List.eq_replicate_iff]
 simp
theorem upto_full (d : Val) (R : Nat → Val) (n : Nat) : upto d R n n = (List.range n).map R := by
 unfold upto
 apply List.map_congr_left
 intro j hj
 rw [if_pos (List.mem_range.1 hj)]
theorem upto_get {d : Val} {R : Nat → Val} {n i j : Nat} (h : j < n) : (upto d R n i)[j]? = some (if j < i then R j else d) := by
 unfold upto
 rw [List.getElem?_map, List.getElem?_range h]; rfl
theorem upto_set {d : Val} {R : Nat → Val} {n i : Nat} (h : i < n) : (upto d R n i).set i (R i) = upto d R n (i + 1) := by
 apply List.ext_getElem?
 intro j
 rcases Nat.lt_or_ge j n with hj | hj
 ·rw [upto_get hj, List.getElem?_set]
  by_cases hij : i = j
  ·subst hij
   rw [if_pos rfl, if_pos (by rw [upto_len]; exact h), if_pos (by omega)]
  ·rw [if_neg hij, upto_get hj]
   by_cases h2 : j < i
   ·rw [if_pos h2, if_pos (by omega)]
   ·rw [if_neg h2, if_neg (by omega)]
 ·rw [List.getElem?_eq_none (by rw [List.length_set, upto_len]; exact hj), List.getElem?_eq_none (by rw [upto_len]; exact hj)]
theorem upto_put {β : Type} {f : Val → β} {d : Val} {R : Nat → Val} {n i : Nat} {b : β} (h : i < n) (hb : b = f (R i)) : ((upto d R n i).map f).set i b = (upto d R n (i + 1)).map f := by
 rw [hb, ← upto_set h, List.map_set]
theorem upto_keep {β : Type} {f : Val → β} {d : Val} {R : Nat → Val} {n i : Nat} (h : i < n) (hb : f d = f (R i)) : (upto d R n i).map f = (upto d R n (i + 1)).map f := by
 apply List.ext_getElem?
 intro j
 rcases Nat.lt_or_ge j n with hj | hj
 ·rw [List.getElem?_map, List.getElem?_map, upto_get hj, upto_get hj]
  by_cases h2 : j < i
  ·rw [if_pos h2, if_pos (by omega)]
  ·rw [if_neg h2]
   by_cases h3 : j < i + 1
   ·rw [if_pos h3, show j = i by omega]; simp [hb]
   ·rw [if_neg h3]
 ·rw [List.getElem?_eq_none (by rw [List.length_map, upto_len]; exact hj), List.getElem?_eq_none (by rw [List.length_map, upto_len]; exact hj)]
theorem range_map {β : Type} (f : Val → β) (l : List Val) : (List.range l.length).map (fun j => f (l.getD j zVal)) = l.map f := by
 apply List.ext_getElem
 ·simp
 ·intro i h1 h2
  simp only [List.length_map, List.length_range] at h1
  rw [List.getElem_map, List.getElem_map, List.getElem_range, getD_eq h1]
def isN (v : Val) : Bool := decide (v.kind = 0)
theorem vec1 (l : List Val) : vecOf 1 l = ⟨1, l.map Val.int, [], l.map isN⟩ := rfl
theorem tv_cases {v : Val} (h : valid v = true) : (v.kind ≠ 1 ∧ tv v = -1) ∨ (v = vbool false ∧ tv v = 0) ∨ (v = vbool true ∧ tv v = 1) := by
 by_cases h1 : v.kind = 1
 ·rcases valid_b2 h h1 with rfl | rfl
  ·exact .inr (.inl ⟨rfl, rfl⟩)
  ·exact .inr (.inr ⟨rfl, rfl⟩)
 ·exact .inl ⟨h1, by unfold tv; rw [cdf h1]⟩
/-! ## not -/
theorem not_run {t : Int} {l : List Val} (h : Col t l) (hl : l.length ≤ 1000) : F53.run [PK.v (Ty.nm 3)] [RK.v (Ty.nm 3)] 4000000 (vecOf t l, ()) = some ((vecOf 1 (l.map vNot), ()), ()) := by
 have hn := vec_len t l
 rw [F53_run, hn, bnd (nulls_run (by unfold isTyp; omega) (by omega))]
 simp only [tup, vec1, List.length_map, List.length_replicate]
 let R : Nat → Val := fun j => vNot (l.getD j zVal)
 have hR : (List.range l.length).map R = l.map vNot := range_map vNot l
 obtain ⟨r, e1, rfl⟩ := loop (fun n i (s : List Val) => F53c3 n (l.length : Int) i (vecOf t l) 0 1 [] [] [] (s.map Val.int) [] (s.map isN)) l.length 1 0 (fun i s => s = upto zVal R l.length i) (fun r => r = ((vecOf 1 (l.map vNot), ()), ()))
  (fun n s _ hs => by
   subst hs
   exact ⟨_, by rw [F53c3_eq, cdf (by omega), upto_full, hR]; rfl, rfl⟩)
  (fun n i s hi hs => by
   subst hs
   refine .inl ⟨n, _, Nat.le_refl _, ?_, rfl⟩
   obtain ⟨hv, hf⟩ := h.get hi
   rw [F53c3_eq, cdt (by omega), bnd (truth_run h hi), w1 (by omega)]
   simp only []
   rcases tv_cases hv with ⟨h1, h2⟩ | ⟨h1, h2⟩ | ⟨h1, h2⟩
   ·rw [h2, cdf (by decide)]
    have : R i = zVal := by show vNot _ = _; unfold vNot; rw [decide_eq_false h1]; rfl
    rw [upto_keep hi (by rw [this]), upto_keep (f := isN) hi (by rw [this])]
   ·have : R i = vbool true := by show vNot _ = _; rw [h1]; rfl
    rw [h2, cdt (by decide), gd (by simp only [List.length_map, upto_len]; omega), gd (by simp only [List.length_map, upto_len]; omega), Int.toNat_natCast, upto_put hi (by rw [this]; rfl), upto_put hi (by rw [this]; rfl)]
   ·have : R i = vbool false := by show vNot _ = _; rw [h1]; rfl
    rw [h2, cdt (by decide), gd (by simp only [List.length_map, upto_len]; omega), gd (by simp only [List.length_map, upto_len]; omega), Int.toNat_natCast, upto_put hi (by rw [this]; rfl), upto_put hi (by rw [this]; rfl)]) l.length 4000000 0 (List.replicate l.length zVal) (by omega) (by omega) (by omega) (upto_zero ..).symm
 exact e1
end Go.Proofs.Tryz
