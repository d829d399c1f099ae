/- Law 42: the three functions and their references; equality. -/
import Derived.Test.YtlkllggdiakpbaaGreatDoorL42Batch
set_option linter.unusedVariables false
set_option linter.unusedSimpArgs false
namespace Go.Proofs.Tryz
open Go.Eng
/-! ## Equality -/
structure Sml (v : Vec) : Prop where
 nulls : v.nulls.length ≤ 1000
 ints : v.ints.length ≤ 1000
 texts : v.texts.length ≤ 1000
/-! ## Eval -/
structure Sc (C : Tabl) (L : Nat) (b : Batch) : Prop where
 tab : Tab C L
 cols : b.columns = cols C
 sel : Selc L (selOf b)
 len : b.all = true → 0 ≤ b.len ∧ b.len ≤ 1000
structure Ok42 (C : Tabl) (e : Ex) : Prop where
 sz : sz e ≤ 100000
 wt : WT (tys42 C) e
 lit : Lit e
/-! ## Filter -/
noncomputable def Pt (C : Tabl) (e : Ex) (i : Int) : Bool := isT (ev (rowOf C i.toNat) e)
noncomputable def filt (C : Tabl) (e : Ex) (b : Batch) : Batch := ⟨b.columns, b.len, false, (selOf b).filter (Pt C e)⟩
/-! ## Project -/
noncomputable def proj (C : Tabl) (l : List Ex) (b : Batch) : Batch := ⟨l.map fun e => vecOf e.f_Type (EV C (selOf b) e), ((selOf b).length : Int), true, []⟩
end Go.Proofs.Tryz
