/- Law 42: what a law's arguments are. -/
import Derived.Test.YtlkllggdiakpbaaGreatDoorL42Law
set_option linter.unusedVariables false
set_option linter.unusedSimpArgs false
namespace Go.Proofs.Tryz
open Go.Eng
theorem sumL_one {α : Type} (f : α → Nat) (h : ∀ x, 1 ≤ f x) : ∀ l : List α, l.length ≤ sumL f l
 | [] => Nat.zero_le _
 | x :: l => by have := sumL_one f h l; have := h x; simp only [sumL, List.length_cons]; omega
theorem sumL_in {α : Type} (f : α → Nat) : ∀ {l : List α} {x : α}, x ∈ l → f x ≤ sumL f l
 | y :: l, x, h => by
  simp only [sumL]
  rcases List.mem_cons.1 h with rfl | h
  ·omega
  ·have := sumL_in f h; omega
theorem batch_len {k : Nat} {b : Batch} {B : Nat} (h : measK NN (k + 2) 2 b ≤ B) : (∀ v ∈ b.columns, v.nulls.length ≤ B) ∧ b.sel.length ≤ B := by
 have h0 : ((sumL (measK NN (k + 1) 3) b.columns + 1) + (1 + (1 + ((sumL (fun _ => 1) b.sel + 1) + 0)))) + 1 ≤ B := h
 refine ⟨fun v hv => ?_, ?_⟩
 ·have h1 := sumL_in (measK NN (k + 1) 3) hv
  have h2 : measK NN (k + 1) 3 v = (1 + ((sumL (fun _ => 1) v.ints + 1) + ((sumL (fun t : List Int => t.length + 1) v.texts + 1) + ((sumL (fun _ => 1) v.nulls + 1) + 0)))) + 1 := rfl
  have h3 := sumL_one (fun _ : Bool => 1) (fun _ => Nat.le_refl _) v.nulls
  omega
 ·have h3 := sumL_one (fun _ : Int => 1) (fun _ => Nat.le_refl _) b.sel
  omega
theorem batch_gv {k : Nat} {b : Batch} (hB : BOk b) (h : okK NN (k + 2) 2 b) : ∀ v ∈ b.columns, ∀ x ∈ valsOf v, GV x := by
 obtain ⟨h1, _⟩ : (∀ v ∈ b.columns, okK NN (k + 1) 3 v) ∧ _ := h
 intro v hv x hx
 obtain ⟨_, hi, ht, _⟩ : _ ∧ (∀ n ∈ v.ints, (Lit.int .i64 n).wf = true) ∧ (∀ t ∈ v.texts, ∀ b ∈ t, 0 ≤ b ∧ b < 256) ∧ _ := h1 v hv
 have hV := (hB.col v hv).1
 have hval := (vals_col hV).valid x hx
 refine gv_mk hval ?_
 obtain ⟨i, hi', rfl⟩ := List.mem_map.1 hx
 have hi' := List.mem_range.1 hi'
 cases v.nulls.getD i false with
 | true => exact rv_z
 | false =>
  rw [cf]
  by_cases c3 : v.f_Type = 3
  ·rw [cdt c3]
   have hl := hV.texts
   rw [cdt c3] at hl
   exact rv_t (ht _ (getD_mem (by omega) _))
  ·rw [cdf c3]
   refine ⟨?_, fun b h => by cases h⟩
   by_cases hl : i < v.ints.length
   ·have h2 := hi _ (getD_mem hl 0)
    have h4 : IntKind.i64.min ≤ v.ints.getD i 0 ∧ v.ints.getD i 0 ≤ IntKind.i64.max := by simpa [Go.Lit.wf] using h2
    rw [show IntKind.i64.min = -9223372036854775808 by rfl, show IntKind.i64.max = 9223372036854775807 by rfl] at h4
    unfold inR; dsimp only; omega
   ·have : v.ints.getD i 0 = 0 := by rw [List.getD_eq_getElem?_getD, List.getElem?_eq_none (by omega)]; rfl
    unfold inR; dsimp only; omega
theorem sc_of {k : Nat} {b : Batch} (hB : BOk b) (h : okK NN (k + 2) 2 b) : Sc (tabl b) b.len.toNat b ∧ (tabl b).length ≤ 1000 := by
 have hf := hB.few
 have h0 := hB.len0
 have h1 := hB.len
 exact ⟨⟨tab_tabl hB (batch_gv hB h), (cols_tabl hB).symm, sel_ok hB, fun _ => by omega⟩, by rw [show (tabl b).length = b.columns.length from List.length_map ..]; omega⟩
end Go.Proofs.Tryz
