/- Law 42: what well-typedness says of a node. -/
import Derived.Test.YtlkllggdiakpbaaGreatDoorL42Typ
set_option linter.unusedVariables false
set_option linter.unusedSimpArgs false
namespace Go.Proofs.Tryz
open Go.Eng
theorem bt5 {ts : List Int} {e : Ex} {l : List Int} (h : e.kind = 5) : btype ts e l = binT e.op l := by unfold btype; rw [h]; rfl
theorem compat_iff {x o : Int} : compat x o = true ↔ x = 0 ∨ x = o := by unfold compat; rw [Bool.or_eq_true, decide_eq_true_eq, decide_eq_true_eq]
theorem WT.two {ts : List Int} {e : Ex} (h : WT ts e) (hk : e.kind = 5) : e.args.length = 2 := by
 have h1 := h.inv.2.1
 rw [bt5 hk] at h1
 unfold binT at h1
 by_cases h2 : e.args.length = 2
 ·exact h2
 ·rw [cond_eq_ite, if_pos (by rw [List.length_map, decide_eq_false (by omega)]; rfl)] at h1
  cases (Prod.mk.inj h1).2
theorem WT.lit {ts : List Int} {e : Ex} (h : WT ts e) (hk : e.kind = 1) : valid e.value = true := by
 have h1 := h.inv.2.1
 unfold btype at h1
 rw [cdt hk] at h1
 have h2 := (Prod.mk.inj h1).2
 simp only [Bool.and_eq_true] at h2
 exact h2.1
theorem valid_bool {v : Val} (h : valid v = true) (hk : v.kind = 1) : v.text = [] ∧ (v.int = 0 ∨ v.int = 1) := by
 unfold valid at h
 rw [if_neg (by omega), if_pos hk] at h
 simp only [Bool.and_eq_true, Bool.or_eq_true, decide_eq_true_eq] at h
 exact ⟨h.2, h.1⟩
theorem WT.one {ts : List Int} {e : Ex} (h : WT ts e) (hk : e.kind = 3 ∨ e.kind = 4 ∨ e.kind = 6) : e.args.length = 1 := by
 have h1 := h.inv.2.1
 unfold btype at h1
 by_cases h2 : ((e.args.map Ex.f_Type).length : Int) = 1
 ·rw [List.length_map] at h2; omega
 ·rcases hk with hk | hk | hk <;> · rw [hk, decide_eq_false h2] at h1; cases (Prod.mk.inj h1).2
theorem WT.ge {ts : List Int} {e : Ex} (h : WT ts e) (hk : e.kind = 7) : 2 ≤ e.args.length := by
 have h1 := h.inv.2.1
 unfold btype at h1
 rw [hk] at h1
 have h2 := (Prod.mk.inj h1).2
 simp only [Bool.and_eq_true, decide_eq_true_eq, List.length_map] at h2
 omega
theorem WT.kinds {ts : List Int} {e : Ex} (h : WT ts e) : 1 ≤ e.kind ∧ e.kind ≤ 9 := by
 have h1 := h.inv.2.1
 by_cases hb : 1 ≤ e.kind ∧ e.kind ≤ 9
 ·exact hb
 ·exfalso
  unfold btype at h1
  rw [cdf (by omega), cdf (by omega), cdf (by omega), cdf (by omega), cdf (by omega), cdf (by omega), cdf (by omega), cdf (by omega), cdf (by omega)] at h1
  cases (Prod.mk.inj h1).2
theorem WT.t3 {ts : List Int} {e : Ex} (h : WT ts e) (hk : e.kind = 3) : e.f_Type = 1 := by
 have h1 := h.inv.2.1
 unfold btype at h1
 rw [hk] at h1
 exact (Prod.mk.inj h1).1.symm
theorem comT_iff (r : Int) : ∀ (l : List Int) (t : Int), comT t l = (r, true) ↔ (∀ x ∈ l, x = 0 ∨ x = r) ∧ (t = 0 ∨ r = t) ∧ (r = t ∨ r ∈ l)
 | [], t => by
  rw [comT]
  constructor
  ·intro h
   have := (Prod.mk.inj h).1
   exact ⟨by simp, .inr this.symm, .inl this.symm⟩
  ·rintro ⟨_, h1, h2⟩
   rcases h2 with h2 | h2
   ·rw [h2]
   ·cases h2
 | x :: l, t => by
  rw [comT]
  have ih := fun t => comT_iff r l t
  by_cases ht : t = 0
  ·subst ht
   rw [show decide ((0 : Int) = 0) = true from rfl, ct, show compat x x = true from compat_iff.2 (.inr rfl), ct, ih x]
   constructor
   ·rintro ⟨h1, h2, h3⟩
    refine ⟨fun y hy => ?_, .inl rfl, ?_⟩
    ·rcases List.mem_cons.1 hy with rfl | hy
     ·exact h2.imp id Eq.symm
     ·exact h1 y hy
    ·exact .inr (h3.elim (fun h => by rw [h]; exact List.mem_cons_self ..) (fun h => List.mem_cons_of_mem _ h))
   ·rintro ⟨h1, h2, h3⟩
    have hx := h1 x (List.mem_cons_self ..)
    refine ⟨fun y hy => h1 y (List.mem_cons_of_mem _ hy), hx.imp id Eq.symm, ?_⟩
    rcases h3 with h3 | h3
    ·left; rcases hx with hx | hx <;> omega
    ·exact (List.mem_cons.1 h3)
  ·rw [decide_eq_false ht, cf]
   cases hc : compat x t with
   | false =>
    rw [cf]
    constructor
    ·intro h; cases (Prod.mk.inj h).2
    ·rintro ⟨h1, h2, h3⟩
     have hx := h1 x (List.mem_cons_self ..)
     have : compat x t = true := compat_iff.2 (by omega)
     rw [this] at hc; cases hc
   | true =>
    rw [ct, ih t]
    have hx := compat_iff.1 hc
    constructor
    ·rintro ⟨h1, h2, h3⟩
     refine ⟨fun y hy => ?_, h2, ?_⟩
     ·rcases List.mem_cons.1 hy with rfl | hy
      ·omega
      ·exact h1 y hy
     ·left; omega
    ·rintro ⟨h1, h2, h3⟩
     exact ⟨fun y hy => h1 y (List.mem_cons_of_mem _ hy), h2, .inl (by omega)⟩
theorem map_ty {l : List Ex} {i : Nat} (h : i < l.length) : (l.map Ex.f_Type).getD i 0 = (l.getD i zEx).f_Type := by
 rw [getD_eq (by rw [List.length_map]; exact h), List.getElem_map, getD_eq h]
end Go.Proofs.Tryz
