/- Law 42: what well-typedness says of a node. -/
import Derived.Test.YtlkllggdiakpbaaGreatDoorL42Typ
set_option linter.unusedVariables false
set_option linter.unusedSimpArgs false
namespace Go.Proofs.Tryz
open Go.Eng
theorem bt5 {ts : List Int} {e : Ex} {l : List Int} (h : e.kind = 5) : btype ts e l = binT e.op l := by unfold btype; rw [h]; rfl
theorem WT.two {ts : List Int} {e : Ex} (h : WT ts e) (hk : e.kind = 5) : e.args.length = 2 := by
 have h1 := h.inv.2.1
 rw [bt5 hk] at h1
 unfold binT at h1
 by_cases h2 : e.args.length = 2
 ·exact h2
 ·rw [cond_eq_ite, if_pos (by rw [List.length_map, decide_eq_false (by omega)]; rfl)] at h1
  cases (Prod.mk.inj h1).2
theorem WT.lit {ts : List Int} {e : Ex} (h : WT ts e) (hk : e.kind = 1) : valid e.value = true := by
 have h1 := h.inv.2.1
 unfold btype at h1
 rw [cdt hk] at h1
 have h2 := (Prod.mk.inj h1).2
 simp only [Bool.and_eq_true] at h2
 exact h2.1
theorem valid_bool {v : Val} (h : valid v = true) (hk : v.kind = 1) : v.text = [] ∧ (v.int = 0 ∨ v.int = 1) := by
 unfold valid at h
 rw [if_neg (by omega), if_pos hk] at h
 simp only [Bool.and_eq_true, Bool.or_eq_true, decide_eq_true_eq] at h
 exact ⟨h.2, h.1⟩
theorem WT.one {ts : List Int} {e : Ex} (h : WT ts e) (hk : e.kind = 3 ∨ e.kind = 4 ∨ e.kind = 6) : e.args.length = 1 := by
 have h1 := h.inv.2.1
 unfold btype at h1
 by_cases h2 : ((e.args.map Ex.f_Type).length : Int) = 1
 ·rw [List.length_map] at h2; omega
 ·rcases hk with hk | hk | hk <;> · rw [hk, decide_eq_false h2] at h1; cases (Prod.mk.inj h1).2
theorem WT.kinds {ts : List Int} {e : Ex} (h : WT ts e) : 1 ≤ e.kind ∧ e.kind ≤ 9 := by
 have h1 := h.inv.2.1
 by_cases hb : 1 ≤ e.kind ∧ e.kind ≤ 9
 ·exact hb
 ·exfalso
  unfold btype at h1
  rw [cdf (by omega), cdf (by omega), cdf (by omega), cdf (by omega), cdf (by omega), cdf (by omega), cdf (by omega), cdf (by omega), cdf (by omega)] at h1
  cases (Prod.mk.inj h1).2
theorem WT.t3 {ts : List Int} {e : Ex} (h : WT ts e) (hk : e.kind = 3) : e.f_Type = 1 := by
 have h1 := h.inv.2.1
 unfold btype at h1
 rw [hk] at h1
 exact (Prod.mk.inj h1).1.symm
end Go.Proofs.Tryz
