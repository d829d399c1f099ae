/- Law 42: what valid batches are. -/
import Derived.Test.YtlkllggdiakpbaaGreatDoorL42Eval
set_option linter.unusedVariables false
set_option linter.unusedSimpArgs false
namespace Go.Proofs.Tryz
open Go.Eng
def Entry (v : Vec) (i : Nat) : Prop :=
 (v.f_Type = 0 → v.nulls.getD i false = true) ∧ (v.f_Type = 3 → (v.texts.getD i []).length ≤ 4096 ∧ (v.nulls.getD i false = true → v.texts.getD i [] = [])) ∧
 (v.f_Type = 1 → v.ints.getD i 0 = 0 ∨ (v.ints.getD i 0 = 1 ∧ v.nulls.getD i false = false)) ∧ (v.f_Type = 2 → v.ints.getD i 0 = 0 ∨ v.nulls.getD i false = false)
structure VOk (v : Vec) : Prop where
 typ : isTyp v.f_Type
 ints : v.ints.length = bif isNum v.f_Type then v.nulls.length else 0
 texts : v.texts.length = bif decide (v.f_Type = 3) then v.nulls.length else 0
 entry : ∀ i, i < v.nulls.length → Entry v i
theorem entry_run {v : Vec} {i : Nat} (ht : isTyp v.f_Type) (hi : i < v.nulls.length) (h1 : v.ints.length = bif isNum v.f_Type then v.nulls.length else 0) (h2 : v.texts.length = bif decide (v.f_Type = 3) then v.nulls.length else 0) :
  ∃ b, F82.run [PK.v (Ty.nm 3), PK.v (Ty.int .i64)] [RK.v Ty.bool] 4000000 (v, (i : Int), ()) = some ((b, ()), ()) ∧ (b = true → Entry v i) := by
 rw [F82_run]
 unfold Entry
 obtain ⟨ht0, ht3⟩ := ht
 by_cases c0 : v.f_Type = 0
 ·rw [cdt c0, gd hi, Int.toNat_natCast]
  exact ⟨_, rfl, fun hb => ⟨fun _ => hb, (by omega), (by omega), (by omega)⟩⟩
 rw [cdf c0]
 by_cases c3 : v.f_Type = 3
 ·rw [cdt c3] at h2 ⊢
  rw [gd (by omega), gd (by omega), Int.toNat_natCast, gd (by omega)]
  by_cases l : (v.texts.getD i []).length ≤ 4096
  ·rw [cdt (by omega)]
   cases hn : v.nulls.getD i false with
   | false => exact ⟨_, rfl, fun _ => ⟨fun h => absurd h c0, fun _ => ⟨l, fun h => by cases h⟩, (by omega), (by omega)⟩⟩
   | true => exact ⟨_, rfl, fun hb => ⟨fun h => absurd h c0, fun _ => ⟨l, fun _ => of_decide_eq_true hb⟩, (by omega), (by omega)⟩⟩
  ·rw [cdf (by omega)]
   exact ⟨_, rfl, fun h => by cases h⟩
 rw [cdf c3]
 have hnum := num_typ ⟨ht0, ht3⟩ c0 c3
 rw [hnum, ct] at h1
 by_cases c1 : v.f_Type = 1
 ·rw [cdt c1, gd (by omega), gd (by omega), gd (by omega), Int.toNat_natCast]
  by_cases z : v.ints.getD i 0 = 0
  ·rw [cdt z]; exact ⟨_, rfl, fun _ => ⟨fun h => absurd h c0, fun h => absurd h c3, fun _ => .inl z, (by omega)⟩⟩
  ·rw [cdf z]
   by_cases o : v.ints.getD i 0 = 1
   ·rw [cdt o]; exact ⟨_, rfl, fun hb => ⟨fun h => absurd h c0, fun h => absurd h c3, fun _ => .inr ⟨o, by simpa using hb⟩, (by omega)⟩⟩
   ·rw [cdf o]; exact ⟨_, rfl, fun h => by cases h⟩
 ·rw [cdf c1, gd (by omega), gd (by omega), Int.toNat_natCast]
  by_cases z : v.ints.getD i 0 = 0
  ·rw [cdt z]; exact ⟨_, rfl, fun _ => ⟨fun h => absurd h c0, fun h => absurd h c3, (by omega), fun _ => .inl z⟩⟩
  ·rw [cdf z]; exact ⟨_, rfl, fun hb => ⟨fun h => absurd h c0, fun h => absurd h c3, (by omega), fun _ => .inr (by simpa using hb)⟩⟩
theorem valid_vec {v : Vec} (hl : v.nulls.length ≤ 1100000) : ∃ b, F48.run [PK.v (Ty.nm 3)] [RK.v Ty.bool] 4000000 (v, ()) = some ((b, ()), ()) ∧ (b = true → VOk v) := by
 have h11 : ∀ n, 3 * v.nulls.length + 10 ≤ n → isTyp v.f_Type → v.ints.length = (bif isNum v.f_Type then v.nulls.length else 0) → v.texts.length = (bif decide (v.f_Type = 3) then v.nulls.length else 0) → ∃ b, F48c10 n v = some ((b, ()), ()) ∧ (b = true → VOk v) := by
  intro n hn ht h1 h2
  obtain ⟨n, rfl⟩ : ∃ n', n = n' + 1 := ⟨n - 1, by omega⟩
  rw [F48c10_eq]
  obtain ⟨r, e1, b, rfl, hb⟩ := loop (fun n i (_ : Unit) => F48c11 n i v) v.nulls.length 1 0 (fun i _ => ∀ j, j < i → Entry v j) (fun r => ∃ b, r = ((b, ()), ()) ∧ (b = true → VOk v))
   (fun n _ _ hx => ⟨_, by rw [F48c11_eq, cdf (by omega)], true, rfl, fun _ => ⟨ht, h1, h2, hx⟩⟩)
   (fun n i _ hi hx => by
    obtain ⟨b, k1, k2⟩ := entry_run ht hi h1 h2
    rw [F48c11_eq, cdt (by omega), bnd k1, w1 (by omega)]
    cases b with
    | false => exact .inr ⟨_, rfl, false, rfl, fun h => by cases h⟩
    | true =>
     refine .inl ⟨n, (), Nat.le_refl _, rfl, fun j hj => ?_⟩
     rcases Nat.lt_or_ge j i with h | h
     ·exact hx j h
     ·rw [show j = i by omega]; exact k2 rfl) v.nulls.length n 0 () (by omega) (by omega) (by omega) (fun j hj => by omega)
  exact ⟨b, e1, hb⟩
 have h8 : ∀ a b : Nat, isTyp v.f_Type → a = (bif isNum v.f_Type then v.nulls.length else 0) → b = (bif decide (v.f_Type = 3) then v.nulls.length else 0) → ∃ c, F48c8 3999999 (a : Int) (b : Int) v = some ((c, ()), ()) ∧ (c = true → VOk v) := by
  intro a b ht ha hb
  rw [show F48c8 3999999 (a : Int) (b : Int) v = _ from F48c8_eq 3999998 a b v]
  by_cases e1 : v.ints.length = a
  ·rw [decide_eq_true (show (v.ints.length : Int) = a by omega), Bool.not_true, cf]
   by_cases e2 : v.texts.length = b
   ·rw [decide_eq_true (show (v.texts.length : Int) = b by omega), Bool.not_true, cf]
    exact h11 _ (by omega) ht (by rw [e1, ha]) (by rw [e2, hb])
   ·rw [decide_eq_false (show ¬ (v.texts.length : Int) = b by omega)]
    exact ⟨_, rfl, fun h => by cases h⟩
  ·rw [decide_eq_false (show ¬ (v.ints.length : Int) = a by omega)]
   exact ⟨_, rfl, fun h => by cases h⟩
 rw [F48_run]
 have ht : F73.run [PK.v (Ty.int .i64)] [RK.v Ty.bool] 4000000 (v.f_Type, ()) = some ((decide (0 ≤ v.f_Type) && decide (v.f_Type ≤ 3), ()), ()) := by
  rw [F73_run]; cases decide (0 ≤ v.f_Type) <;> rfl
 rw [bnd ht]
 simp only []
 cases hb : (decide (0 ≤ v.f_Type) && decide (v.f_Type ≤ 3)) with
 | false => exact ⟨_, rfl, fun h => by cases h⟩
 | true =>
  simp only [Bool.and_eq_true, decide_eq_true_eq] at hb
  have hT : isTyp v.f_Type := hb
  simp only [show ∀ a b c, F48c6 4000000 a b c = _ from fun a b c => F48c6_eq 3999999 a b c]
  rw [Bool.not_true, cf]
  by_cases c1 : v.f_Type = 1
  ·rw [cdt c1, cdf (by omega)]
   exact h8 v.nulls.length 0 hT (by rw [c1]; rfl) (by rw [c1]; rfl)
  rw [cdf c1]
  by_cases c2 : v.f_Type = 2
  ·rw [cdt c2, cdf (by omega)]
   exact h8 v.nulls.length 0 hT (by rw [c2]; rfl) (by rw [c2]; rfl)
  rw [cdf c2]
  have hnn : isNum v.f_Type = false := by unfold isNum; rw [decide_eq_false c1, decide_eq_false c2]; rfl
  by_cases c3 : v.f_Type = 3
  ·rw [cdt c3]
   exact h8 0 v.nulls.length hT (by rw [hnn]; rfl) (by rw [cdt c3])
  ·rw [cdf c3]
   exact h8 0 0 hT (by rw [hnn]; rfl) (by rw [cdf c3])
def valsOf (v : Vec) : List Val := (List.range v.nulls.length).map fun i => bif v.nulls.getD i false then zVal else bif decide (v.f_Type = 3) then ⟨3, 0, v.texts.getD i []⟩ else ⟨v.f_Type, v.ints.getD i 0, []⟩
theorem vals_len (v : Vec) : (valsOf v).length = v.nulls.length := by simp [valsOf]
theorem vals_get {v : Vec} {i : Nat} (hi : i < v.nulls.length) : (valsOf v)[i]'(by rw [vals_len]; exact hi) = bif v.nulls.getD i false then zVal else bif decide (v.f_Type = 3) then ⟨3, 0, v.texts.getD i []⟩ else ⟨v.f_Type, v.ints.getD i 0, []⟩ := by
 simp only [valsOf, List.getElem_map, List.getElem_range]
theorem vals_col {v : Vec} (h : VOk v) : Col v.f_Type (valsOf v) := by
 have key : ∀ x ∈ valsOf v, valid x = true ∧ fitsV v.f_Type x := fun x hx => by
  obtain ⟨i, hi, rfl⟩ := List.mem_map.1 hx
  have hi := List.mem_range.1 hi
  obtain ⟨e0, e3, e1, e2⟩ := h.entry i hi
  cases hn : v.nulls.getD i false with
  | true => exact ⟨rfl, .inl rfl⟩
  | false =>
   rw [cf]
   by_cases c3 : v.f_Type = 3
   ·rw [cdt c3]; exact ⟨valid_t (e3 c3).1, .inr c3.symm⟩
   ·rw [cdf c3]
    refine ⟨?_, .inr rfl⟩
    have := h.typ
    unfold isTyp at this
    have c0 : v.f_Type ≠ 0 := fun h0 => by rw [e0 h0] at hn; cases hn
    by_cases c1 : v.f_Type = 1
    ·rcases e1 c1 with z | ⟨z, _⟩ <;> rw [c1, z] <;> rfl
    ·rw [show v.f_Type = 2 by omega]; rfl
 exact ⟨h.typ, fun x hx => (key x hx).1, fun x hx => (key x hx).2⟩
theorem vals_vec {v : Vec} (h : VOk v) : vecOf v.f_Type (valsOf v) = v := by
 have hN : (valsOf v).map (fun v => decide (v.kind = 0)) = v.nulls := by
  apply List.ext_getElem
  ·rw [List.length_map, vals_len]
  ·intro i h1 h2
   rw [List.getElem_map, vals_get h2]
   obtain ⟨e0, e3, e1, e2⟩ := h.entry i h2
   rw [← getD_eq h2 (d := false)]
   cases hn : v.nulls.getD i false with
   | true => rfl
   | false =>
    rw [cf]
    have c0 : v.f_Type ≠ 0 := fun h0 => by rw [e0 h0] at hn; cases hn
    by_cases c3 : v.f_Type = 3
    ·rw [cdt c3]; rfl
    ·rw [cdf c3]; exact decide_eq_false c0
 have hI : (bif isNum v.f_Type then (valsOf v).map Val.int else []) = v.ints := by
  cases hn : isNum v.f_Type with
  | false =>
   have := h.ints
   rw [hn, cf] at this
   exact (List.eq_nil_of_length_eq_zero this).symm
  | true =>
   have hl := h.ints
   rw [hn, ct] at hl
   rw [ct]
   apply List.ext_getElem
   ·rw [List.length_map, vals_len, hl]
   ·intro i h1 h2
    have hi : i < v.nulls.length := by omega
    rw [List.getElem_map, vals_get hi, ← getD_eq h2 (d := 0)]
    obtain ⟨e0, e3, e1, e2⟩ := h.entry i hi
    have c3 : v.f_Type ≠ 3 := fun h3 => by rw [h3] at hn; cases hn
    rw [cdf c3]
    cases hb : v.nulls.getD i false with
    | false => rfl
    | true =>
     rw [ct]
     unfold isNum at hn
     simp only [Bool.or_eq_true, decide_eq_true_eq] at hn
     rw [hb] at e1 e2
     rcases hn with hn | hn
     ·rcases e1 hn with z | ⟨_, z⟩
      ·exact z.symm
      ·cases z
     ·rcases e2 hn with z | z
      ·exact z.symm
      ·cases z
 have hT : (bif decide (v.f_Type = 3) then (valsOf v).map Val.text else []) = v.texts := by
  by_cases c3 : v.f_Type = 3
  ·have hl := h.texts
   rw [cdt c3] at hl ⊢
   apply List.ext_getElem
   ·rw [List.length_map, vals_len, hl]
   ·intro i h1 h2
    have hi : i < v.nulls.length := by omega
    rw [List.getElem_map, vals_get hi, ← getD_eq h2 (d := []), cdt c3]
    obtain ⟨e0, e3, e1, e2⟩ := h.entry i hi
    cases hb : v.nulls.getD i false with
    | false => rfl
    | true => rw [ct, (e3 c3).2 hb]; rfl
  ·have hl := h.texts
   rw [cdf c3] at hl ⊢
   exact (List.eq_nil_of_length_eq_zero hl).symm
 unfold vecOf
 rw [hN, hI, hT]
 exact vec_eta v
end Go.Proofs.Tryz
