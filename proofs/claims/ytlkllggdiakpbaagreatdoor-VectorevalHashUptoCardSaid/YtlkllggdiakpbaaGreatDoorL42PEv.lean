/- Law 42: the program's evaluation is the reference's. -/
import Derived.Test.YtlkllggdiakpbaaGreatDoorL42PCall
set_option linter.unusedVariables false
set_option linter.unusedSimpArgs false
namespace Go.Proofs.Tryz
open Go.Eng
theorem gen_not {x : List Int} {n : Nat} (h : isGen x = false) : genT x n = false := by
 unfold isGen at h
 unfold genT
 revert h
 cases decide (x = nCoalesce) <;> cases decide (x = nLeast) <;> cases decide (x = nGreatest) <;> cases decide (x = nNullif) <;> simp
/-! ## Parts in range -/
structure RV (v : Val) : Prop where
 int : inR v.int
 bytes : ∀ b ∈ v.text, 0 ≤ b ∧ b < 256
theorem gv_mk {v : Val} (h : valid v = true) (r : RV v) : GV v := ⟨h, r.int.1, r.int.2, r.bytes⟩
theorem GV.rv {v : Val} (h : GV v) : RV v := ⟨⟨h.lo, h.hi⟩, h.bytes⟩
theorem inR0 : inR 0 := by unfold inR; omega
theorem rv_z : RV zVal := ⟨inR0, fun b h => by cases h⟩
theorem rv_t {t : List Int} (h : ∀ b ∈ t, 0 ≤ b ∧ b < 256) : RV ⟨3, 0, t⟩ := ⟨inR0, h⟩
inductive Lit : Ex → Prop
 | mk {e : Ex} (v : RV e.value) (args : ∀ a ∈ e.args, Lit a) : Lit e
theorem Lit.val {e : Ex} (h : Lit e) : RV e.value := by cases h with | mk a b => exact a
/-! ## The ring -/
theorem WT.name {ts : List Int} {e : Ex} (h : WT ts e) (hk : e.kind = 9) : isGen e.name = true ∨ (sigT e.name).2.2 = true := by
 have h1 := h.inv.2.1
 have h2 : resT e.name (e.args.map Ex.f_Type) = (e.f_Type, true) := by rw [← h1]; unfold btype; rw [hk]; rfl
 unfold resT at h2
 cases hg : isGen e.name with
 | true => exact .inl rfl
 | false =>
  right
  rw [gen_not hg] at h2
  cases hs : (sigT e.name).2.2 with
  | true => rfl
  | false =>
   rw [hs] at h2
   revert h2
   cases decide (256 < ((e.args.map Ex.f_Type).length : Int)) <;> (intro h2; cases (Prod.mk.inj h2).2)
end Go.Proofs.Tryz
