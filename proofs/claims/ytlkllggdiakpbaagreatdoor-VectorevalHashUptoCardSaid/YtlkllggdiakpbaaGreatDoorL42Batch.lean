/- Law 42: batches: what is valid, what is selected, the reference. -/
import Derived.Test.YtlkllggdiakpbaaGreatDoorL42Valid
set_option linter.unusedVariables false
set_option linter.unusedSimpArgs false
namespace Go.Proofs.Tryz
open Go.Eng
structure BOk (b : Batch) : Prop where
 len0 : 0 ≤ b.len
 len : b.len ≤ 100
 few : b.columns.length ≤ 8
 col : ∀ v ∈ b.columns, VOk v ∧ (v.nulls.length : Int) = b.len
 sel : ∀ i, i < b.sel.length → 0 ≤ b.sel.getD i 0 ∧ b.sel.getD i 0 < b.len ∧ (i : Int) ≤ b.sel.getD i 0
theorem small_run {b : Batch} (hc : ∀ v ∈ b.columns, v.nulls.length ≤ 1100000) (hs : b.sel.length ≤ 1100000) : ∃ c, F8.run [PK.v (Ty.nm 2)] [RK.v Ty.bool] 4000000 (b, ()) = some ((c, ()), ()) ∧ (c = true → BOk b) := by
 rw [F8_run]
 by_cases h1' : ¬ b.len ≤ 100
 ·rw [cdf h1']; exact ⟨_, rfl, fun h => by cases h⟩
 have h1 := Decidable.not_not.1 h1'
 rw [cdt h1]
 by_cases h2' : ¬ (b.columns.length : Int) ≤ 8
 ·rw [cdf h2']; exact ⟨_, rfl, fun h => by cases h⟩
 have h2 := Decidable.not_not.1 h2'
 rw [cdt h2]
 suffices hx : ∃ c, F25.run [PK.v (Ty.nm 2)] [RK.v Ty.bool] 4000000 (b, ()) = some ((c, ()), ()) ∧ (c = true → BOk b) from let ⟨c, q1, q2⟩ := hx; ⟨c, by rw [bnd q1], q2⟩
 rw [F25_run]
 by_cases h3 : b.len < 0
 ·rw [cdt h3]; exact ⟨_, rfl, fun h => by cases h⟩
 rw [cdf h3]
 have h9 : ∀ n, 2 * b.sel.length + 10 ≤ n → (∀ v ∈ b.columns, VOk v ∧ (v.nulls.length : Int) = b.len) → ∃ c, F25c9 n 0 b = some ((c, ()), ()) ∧ (c = true → BOk b) := by
  intro n hn hcol
  obtain ⟨r, e1, c, rfl, hb⟩ := loop (fun n i (_ : Unit) => F25c9 n i b) b.sel.length 2 0 (fun i _ => ∀ j, j < i → 0 ≤ b.sel.getD j 0 ∧ b.sel.getD j 0 < b.len ∧ (j : Int) ≤ b.sel.getD j 0) (fun r => ∃ c, r = ((c, ()), ()) ∧ (c = true → BOk b))
   (fun n _ _ hx => ⟨_, by rw [F25c9_eq, cdf (by omega)], true, rfl, fun _ => ⟨by omega, h1, by omega, hcol, hx⟩⟩)
   (fun n i _ hi hx => by
    have done : 0 ≤ b.sel.getD i 0 → b.sel.getD i 0 < b.len → (i : Int) ≤ b.sel.getD i 0 → ∀ j, j < i + 1 → 0 ≤ b.sel.getD j 0 ∧ b.sel.getD j 0 < b.len ∧ (j : Int) ≤ b.sel.getD j 0 := fun d1 d2 d3 j hj => by
     rcases Nat.lt_or_ge j i with h | h
     ·exact hx j h
     ·rw [show j = i by omega]; exact ⟨d1, d2, d3⟩
    rw [F25c9_eq, cdt (by omega), gd hi, gd hi, gd hi, Int.toNat_natCast]
    simp only [F25c10_eq, w1 (show i < 4611686018427387904 by omega)]
    by_cases c1 : b.sel.getD i 0 < 0
    ·rw [cdt c1]; exact .inr ⟨_, rfl, _, rfl, fun h => by cases h⟩
    rw [cdf c1]
    by_cases c2 : b.len ≤ b.sel.getD i 0
    ·rw [cdt c2]; exact .inr ⟨_, rfl, _, rfl, fun h => by cases h⟩
    rw [cdf c2]
    by_cases c3 : i = 0
    ·rw [cdf (by omega)]
     exact .inl ⟨n, (), Nat.le_refl _, rfl, done (by omega) (by omega) (by omega)⟩
    ·rw [cdt (by omega), wrap64_id (z := (i : Int) - 1) (by omega) (by omega), if_pos (by omega), if_pos (by omega)]
     have hp := hx (i - 1) (by omega)
     rw [show ((i : Int) - 1).toNat = i - 1 by omega]
     by_cases c4 : b.sel.getD i 0 ≤ b.sel.getD (i - 1) 0
     ·rw [cdt c4]; exact .inr ⟨_, rfl, _, rfl, fun h => by cases h⟩
     ·rw [cdf c4]
      exact .inl ⟨n, (), Nat.le_refl _, rfl, done (by omega) (by omega) (by omega)⟩) b.sel.length n 0 () (by omega) (by omega) (by omega) (fun j hj => by omega)
  exact ⟨c, e1, hb⟩
 have h4 : ∃ c, F25c3 4000000 b = some ((c, ()), ()) ∧ (c = true → BOk b) := by
  rw [show F25c3 4000000 b = _ from F25c3_eq 3999999 b]
  obtain ⟨r, e1, c, rfl, hb⟩ := loop (fun n i (_ : Unit) => F25c4 n i b) b.columns.length 1 (2 * b.sel.length + 10) (fun i _ => ∀ v ∈ b.columns.take i, VOk v ∧ (v.nulls.length : Int) = b.len) (fun r => ∃ c, r = ((c, ()), ()) ∧ (c = true → BOk b))
   (fun n _ hn hx => by
    rw [List.take_length] at hx
    obtain ⟨c, q1, q2⟩ := h9 n hn hx
    exact ⟨_, by rw [F25c4_eq, cdf (by omega), q1], c, rfl, q2⟩)
   (fun n i _ hi hx => by
    have hm := getD_mem hi zVec
    obtain ⟨c, q1, q2⟩ := valid_vec (hc _ hm)
    rw [F25c4_eq, cdt (by omega), gd hi, gd hi, Int.toNat_natCast, bnd q1, w1 (by omega)]
    cases c with
    | false => exact .inr ⟨_, rfl, false, rfl, fun h => by cases h⟩
    | true =>
     simp only [Bool.not_true, cond_false]
     by_cases c1 : ((b.columns.getD i zVec).nulls.length : Int) = b.len
     ·rw [decide_eq_true c1]
      refine .inl ⟨n, (), Nat.le_refl _, rfl, fun v hv => ?_⟩
      rw [List.take_succ_eq_append_getElem hi] at hv
      rcases List.mem_append.1 hv with h | h
      ·exact hx v h
      ·rw [List.mem_singleton.1 h, ← getD_eq hi (d := zVec)]
       exact ⟨q2 rfl, c1⟩
     ·rw [decide_eq_false c1]
      exact .inr ⟨_, rfl, false, rfl, fun h => by cases h⟩) b.columns.length 3999999 0 () (by omega) (by omega) (by omega) (by simp)
  exact ⟨c, e1, hb⟩
 cases b.all with
 | false => rw [cf]; exact h4
 | true =>
  rw [ct]
  by_cases h5 : 0 < (b.sel.length : Int)
  ·rw [cdt h5]; exact ⟨_, rfl, fun h => by cases h⟩
  ·rw [cdf h5]; exact h4
def tabl (b : Batch) : Tabl := b.columns.map fun v => (v.f_Type, valsOf v)
theorem cols_tabl {b : Batch} (h : BOk b) : cols (tabl b) = b.columns := by
 unfold cols tabl
 rw [List.map_map]
 conv => rhs; rw [← List.map_id b.columns]
 exact List.map_congr_left (fun v hv => vals_vec (h.col v hv).1)
theorem tab_tabl {b : Batch} (h : BOk b) (hg : ∀ v ∈ b.columns, ∀ x ∈ valsOf v, GV x) : Tab (tabl b) b.len.toNat := by
 refine ⟨fun c hc => ?_, fun c hc => ?_, fun c hc => ?_⟩ <;> obtain ⟨v, hv, rfl⟩ := List.mem_map.1 hc
 ·exact vals_col (h.col v hv).1
 ·have := (h.col v hv).2
  rw [vals_len]; omega
 ·exact hg v hv
def selOf (b : Batch) : List Int := bif b.all then upN b.len.toNat else b.sel
theorem sel_ok {b : Batch} (h : BOk b) : Selc b.len.toNat (selOf b) := by
 have h0 := h.len0
 have h1 := h.len
 unfold selOf
 cases b.all with
 | true =>
  rw [ct]
  exact ⟨by rw [upN_len]; omega, fun i hi => by have := mem_upN.1 hi; omega⟩
 | false =>
  rw [cf]
  refine ⟨?_, fun i hi => ?_⟩
  ·rcases Nat.eq_zero_or_pos b.sel.length with h2 | h2
   ·omega
   ·have := h.sel (b.sel.length - 1) (by omega); omega
  ·obtain ⟨j, hj, rfl⟩ := List.mem_iff_getElem.1 hi
   have := h.sel j hj
   rw [getD_eq hj] at this
   omega
theorem rsel_run {b : Batch} (h : BOk b) : F19.run [PK.v (Ty.nm 2)] [RK.v (Ty.int .i64).sl] 4000000 (b, ()) = some ((selOf b, ()), ()) := by
 have h0 := h.len0
 have h1 := h.len
 rw [F19_run]
 unfold selOf
 cases b.all with
 | false => rfl
 | true =>
  rw [Bool.not_true, cf, ct]
  obtain ⟨r, e1, rfl⟩ := loop (fun n i (x : List Int) => F19c5 n i b x) b.len.toNat 1 0 (fun i x => x = upN i) (fun r => r = ((upN b.len.toNat, ()), ()))
   (fun n x _ hx => by subst hx; exact ⟨_, by rw [F19c5_eq, cdf (by omega)], rfl⟩)
   (fun n i x hi hx => .inl ⟨n, x ++ [(i : Int)], Nat.le_refl _, by
    have : x.length = i := by rw [hx, upN_len]
    rw [F19c5_eq, cdt (by omega), if_pos (by unfold lim; omega), w1 (by omega)], by rw [hx, upN_succ]⟩) b.len.toNat 4000000 0 [] (by omega) (by omega) (by omega) rfl
  exact e1
/-! ## The reference's rows -/
def rowsOf (C : Tabl) (s : List Int) : List (List Val) := s.map fun i => rowOf C i.toNat
end Go.Proofs.Tryz
