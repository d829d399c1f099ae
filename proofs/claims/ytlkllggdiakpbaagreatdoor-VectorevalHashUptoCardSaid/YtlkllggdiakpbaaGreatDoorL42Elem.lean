/- Law 42: the functions that work element by element. -/
import Derived.Test.YtlkllggdiakpbaaGreatDoorL42Vec
import Derived.Test.YtlkllggdiakpbaaGreatDoorL42Pres
set_option linter.unusedVariables false
set_option linter.unusedSimpArgs false
namespace Go.Proofs.Tryz
open Go.Eng
/-! ## Columns of valid values -/
structure Col (t : Int) (l : List Val) : Prop where
 typ : isTyp t
 valid : ∀ v ∈ l, valid v = true
 fits : ∀ v ∈ l, fitsV t v
theorem Col.get {t : Int} {l : List Val} (h : Col t l) {i : Nat} (hi : i < l.length) : Go.Proofs.Tryz.valid (l.getD i zVal) = true ∧ fitsV t (l.getD i zVal) := ⟨h.valid _ (getD_mem hi _), h.fits _ (getD_mem hi _)⟩
theorem map_getD {α β : Type} {f : α → β} {l : List α} {i : Nat} {d : β} {e : α} (h : i < l.length) : (l.map f).getD i d = f (l.getD i e) := by
 rw [getD_eq (by simpa using h), List.getElem_map, getD_eq h]
theorem vec_null {t : Int} {l : List Val} {i : Nat} (h : i < l.length) : (vecOf t l).nulls.getD i false = decide ((l.getD i zVal).kind = 0) := map_getD h
theorem vec_ints {t : Int} {l : List Val} (h : isNum t = true) : (vecOf t l).ints = l.map Val.int := by unfold vecOf; rw [h]; rfl
theorem vec_texts (l : List Val) : (vecOf 3 l).texts = l.map Val.text := rfl
theorem valid_k3 {v : Val} (h : valid v = true) (h3 : v.kind = 3) : v = ⟨3, 0, v.text⟩ := by
 unfold valid at h
 rw [if_neg (by omega), if_neg (by omega), if_neg (by omega), if_pos h3] at h
 simp only [Bool.and_eq_true, decide_eq_true_eq] at h
 cases v; simp_all
theorem valid_kn {v : Val} (h : valid v = true) (h3 : v.kind = 1 ∨ v.kind = 2) : v = ⟨v.kind, v.int, []⟩ := by
 unfold valid at h
 rcases h3 with h3 | h3
 ·rw [if_neg (by omega), if_pos h3] at h
  simp only [Bool.and_eq_true, decide_eq_true_eq] at h
  cases v; simp_all
 ·rw [if_neg (by omega), if_neg (by omega), if_pos h3] at h
  simp only [decide_eq_true_eq] at h
  cases v; simp_all
theorem num_typ {t : Int} (h : isTyp t) (h0 : t ≠ 0) (h3 : t ≠ 3) : isNum t = true := by
 unfold isNum
 obtain ⟨a, b⟩ := h
 have : t = 1 ∨ t = 2 := by omega
 rcases this with rfl | rfl <;> rfl
theorem at_run {t : Int} {l : List Val} {i : Nat} (h : Col t l) (hi : i < l.length) :
  F40.run [PK.v (Ty.nm 3), PK.v (Ty.int .i64)] [RK.v (Ty.nm 0)] 4000000 (vecOf t l, (i : Int), ()) = some ((l.getD i zVal, ()), ()) := by
 obtain ⟨hv, hf⟩ := h.get hi
 have hn := vec_len t l
 rw [F40_run, cdf (by omega), cdf (by omega), gd (by omega), Int.toNat_natCast, vec_null hi]
 by_cases h0 : (l.getD i zVal).kind = 0
 ·rw [cdt h0, valid_null hv h0]
 ·rw [cdf h0, show ∀ a b c, F40c3 4000000 a b c = _ from fun a b c => F40c3_eq 3999999 a b c]
  have hk : (l.getD i zVal).kind = t := hf.resolve_left h0
  by_cases h3 : t = 3
  ·subst h3
   rw [cdt (vec_type _ _), Int.toNat_natCast, vec_texts, gd (by rw [List.length_map]; exact hi), map_getD (e := zVal) hi]
   rw [← valid_k3 hv hk]
  ·have hnum := num_typ h.typ (by omega) h3
   rw [cdf (by rw [vec_type]; exact h3), Int.toNat_natCast, vec_ints hnum, gd (by rw [List.length_map]; exact hi), map_getD (e := zVal) hi, vec_type]
   have := valid_kn hv (by have := h.typ; unfold isTyp at this; omega)
   rw [hk] at this
   rw [← this]
theorem rat_run {t : Int} {l : List Val} {i : Nat} (h : Col t l) (hi : i < l.length) :
  F46.run [PK.v (Ty.nm 3), PK.v (Ty.int .i64)] [RK.v (Ty.nm 0)] 4000000 (vecOf t l, (i : Int), ()) = some ((l.getD i zVal, ()), ()) := by
 obtain ⟨hv, hf⟩ := h.get hi
 have hn := vec_len t l
 rw [F46_run, cdf (by omega), cdf (by omega), gd (by omega), Int.toNat_natCast, vec_null hi]
 by_cases h0 : (l.getD i zVal).kind = 0
 ·rw [cdt h0, valid_null hv h0]
 ·rw [cdf h0, show ∀ a b c, F46c3 4000000 a b c = _ from fun a b c => F46c3_eq 3999999 a b c]
  have hk : (l.getD i zVal).kind = t := hf.resolve_left h0
  by_cases h3 : t = 3
  ·subst h3
   rw [cdt (vec_type _ _), Int.toNat_natCast, vec_texts, gd (by rw [List.length_map]; exact hi), map_getD (e := zVal) hi]
   rw [← valid_k3 hv hk]
  ·have hnum := num_typ h.typ (by omega) h3
   rw [cdf (by rw [vec_type]; exact h3), Int.toNat_natCast, vec_ints hnum, gd (by rw [List.length_map]; exact hi), map_getD (e := zVal) hi, vec_type]
   have := valid_kn hv (by have := h.typ; unfold isTyp at this; omega)
   rw [hk] at this
   rw [← this]
def tv (v : Val) : Int := bif decide (v.kind = 1) then v.int else -1
/-! ## Lists that are filled from the left -/
def upto (d : Val) (R : Nat → Val) (n i : Nat) : List Val := (List.range n).map fun j => if j < i then R j else d
def isN (v : Val) : Bool := decide (v.kind = 0)
/-! ## not -/
end Go.Proofs.Tryz
