/- Law 42: the three functions and their references; equality. -/
import Derived.Test.YtlkllggdiakpbaaGreatDoorL42Batch
set_option linter.unusedVariables false
set_option linter.unusedSimpArgs false
namespace Go.Proofs.Tryz
open Go.Eng
/-! ## Equality -/
theorem eqv_run {v : Vec} (h1 : v.nulls.length ≤ 1000000) (h2 : v.ints.length ≤ 1000000) (h3 : v.texts.length ≤ 1000000) : F11.run [PK.v (Ty.nm 3), PK.v (Ty.nm 3)] [RK.v Ty.bool] 4000000 (v, v, ()) = some ((true, ()), ()) := by
 have k3 : ∀ n, v.texts.length + 2 ≤ n → F11c14 n 0 v v = some ((true, ()), ()) := fun n hn => by
  obtain ⟨r, e1, rfl⟩ := loop (fun n i (_ : Unit) => F11c14 n i v v) v.texts.length 1 0 (fun _ _ => True) (fun r => r = ((true, ()), ()))
   (fun n _ _ _ => ⟨_, by rw [F11c14_eq, cdf (by omega)], rfl⟩)
   (fun n i _ hi _ => .inl ⟨n, (), Nat.le_refl _, by rw [F11c14_eq, cdt (by omega), gd hi, gd hi, decide_eq_true rfl, Bool.not_true, cf, w1 (by omega)], trivial⟩) v.texts.length n 0 () (by omega) (by omega) (by omega) trivial
  exact e1
 have k2 : ∀ n, v.ints.length + v.texts.length + 4 ≤ n → F11c9 n 0 v v = some ((true, ()), ()) := fun n hn => by
  obtain ⟨r, e1, rfl⟩ := loop (fun n i (_ : Unit) => F11c9 n i v v) v.ints.length 1 (v.texts.length + 2) (fun _ _ => True) (fun r => r = ((true, ()), ()))
   (fun n _ hn _ => ⟨_, by rw [F11c9_eq, cdf (by omega), k3 n hn], rfl⟩)
   (fun n i _ hi _ => .inl ⟨n, (), Nat.le_refl _, by rw [F11c9_eq, cdt (by omega), gd hi, gd hi, decide_eq_true rfl, Bool.not_true, cf, w1 (by omega)], trivial⟩) v.ints.length n 0 () (by omega) (by omega) (by omega) trivial
  exact e1
 rw [F11_run, decide_eq_true rfl, decide_eq_true rfl, decide_eq_true rfl, decide_eq_true rfl, Bool.not_true, cf, cf, cf, cf, show F11c3 4000000 v v = _ from F11c3_eq 3999999 v v]
 obtain ⟨r, e1, rfl⟩ := loop (fun n i (_ : Unit) => F11c4 n i v v) v.nulls.length 1 (v.ints.length + v.texts.length + 4) (fun _ _ => True) (fun r => r = ((true, ()), ()))
  (fun n _ hn _ => ⟨_, by rw [F11c4_eq, cdf (by omega), k2 n hn], rfl⟩)
  (fun n i _ hi _ => .inl ⟨n, (), Nat.le_refl _, by rw [F11c4_eq, cdt (by omega), gd hi, gd hi, decide_eq_true rfl, Bool.not_true, cf, w1 (by omega)], trivial⟩) v.nulls.length 3999999 0 () (by omega) (by omega) (by omega) trivial
 exact e1
theorem eqi_run {l : List Int} (h : l.length ≤ 1000000) : F37.run [PK.v (Ty.int .i64).sl, PK.v (Ty.int .i64).sl] [RK.v Ty.bool] 4000000 (l, l, ()) = some ((true, ()), ()) := by
 rw [F37_run, decide_eq_true rfl, Bool.not_true, cf]
 obtain ⟨r, e1, rfl⟩ := loop (fun n i (_ : Unit) => F37c4 n l l i) l.length 1 0 (fun _ _ => True) (fun r => r = ((true, ()), ()))
  (fun n _ _ _ => ⟨_, by rw [F37c4_eq, cdf (by omega)], rfl⟩)
  (fun n i _ hi _ => .inl ⟨n, (), Nat.le_refl _, by rw [F37c4_eq, cdt (by omega), gd hi, gd hi, decide_eq_true rfl, Bool.not_true, cf, w1 (by omega)], trivial⟩) l.length 4000000 0 () (by omega) (by omega) (by omega) trivial
 exact e1
structure Sml (v : Vec) : Prop where
 nulls : v.nulls.length ≤ 1000
 ints : v.ints.length ≤ 1000
 texts : v.texts.length ≤ 1000
theorem eqb_run {b : Batch} (hs : b.sel.length ≤ 1000) (hc : b.columns.length ≤ 1000) (hv : ∀ v ∈ b.columns, Sml v) : F14.run [PK.v (Ty.nm 2), PK.v (Ty.nm 2)] [RK.v Ty.bool] 4000000 (b, b, ()) = some ((true, ()), ()) := by
 rw [F14_run, decide_eq_true rfl, decide_eq_true rfl, decide_eq_true rfl, Bool.not_true, cf, cf, bnd (eqi_run (by omega))]
 simp only [Bool.not_true, cond_false]
 rw [show F14c3 4000000 b b = _ from F14c3_eq 3999999 b b]
 obtain ⟨r, e1, rfl⟩ := loop (fun n i (_ : Unit) => F14c4 n i b b) b.columns.length 1 0 (fun _ _ => True) (fun r => r = ((true, ()), ()))
  (fun n _ _ _ => ⟨_, by rw [F14c4_eq, cdf (by omega)], rfl⟩)
  (fun n i _ hi _ => .inl ⟨n, (), Nat.le_refl _, by
   obtain ⟨h1, h2, h3⟩ := hv _ (getD_mem hi zVec)
   rw [F14c4_eq, cdt (by omega), gd hi, gd hi, Int.toNat_natCast, bnd (eqv_run (by omega) (by omega) (by omega)), w1 (by omega)]
   rfl, trivial⟩) b.columns.length 3999999 0 () (by omega) (by omega) (by omega) trivial
 exact e1
/-! ## Eval -/
structure Sc (C : Tabl) (L : Nat) (b : Batch) : Prop where
 tab : Tab C L
 cols : b.columns = cols C
 sel : Selc L (selOf b)
 len : b.all = true → 0 ≤ b.len ∧ b.len ≤ 1000
structure Ok42 (C : Tabl) (e : Ex) : Prop where
 sz : sz e ≤ 100000
 wt : WT (tys42 C) e
 lit : Lit e
theorem sel2_run {C : Tabl} {L : Nat} {b : Batch} (h : Sc C L b) : F32.run [PK.v (Ty.nm 2)] [RK.v (Ty.int .i64).sl] 4000000 (b, ()) = some ((selOf b, ()), ()) := by
 rw [F32_run]
 unfold selOf
 cases hall : b.all with
 | true =>
  have hl := h.len hall
  rw [ct, ct]
  have := allN_run (L := b.len.toNat) (by omega)
  rw [show ((b.len.toNat : Nat) : Int) = b.len by omega] at this
  rw [bnd this]
 | false => rfl
/-! ## Filter -/
noncomputable def Pt (C : Tabl) (e : Ex) (i : Int) : Bool := isT (ev (rowOf C i.toNat) e)
noncomputable def filt (C : Tabl) (e : Ex) (b : Batch) : Batch := ⟨b.columns, b.len, false, (selOf b).filter (Pt C e)⟩
theorem filter_take {f : Int → Bool} {s : List Int} {i : Nat} (hi : i < s.length) : (s.take (i + 1)).filter f = (s.take i).filter f ++ (bif f (s.getD i 0) then [s.getD i 0] else []) := by
 rw [List.take_succ_eq_append_getElem hi, List.filter_append, getD_eq hi]
 cases hf : f s[i] <;> simp [hf]
theorem pfilter_run {C : Tabl} {L : Nat} {b : Batch} {e : Ex} (h : Sc C L b) (he : Ok42 C e) : F15.run [PK.v (Ty.nm 1), PK.v (Ty.nm 2)] [RK.v (Ty.nm 2)] 4000000 (e, b, ()) = some ((filt C e b, ()), ()) := by
 have hs := h.sel
 have hf := hs.few
 have hc := EV_col h.tab hs he.wt
 rw [F15_run, bnd (sel2_run h), h.cols]
 dsimp only
 rw [bnd (scope_run h.tab he.sz he.wt he.lit hs)]
 dsimp only
 obtain ⟨r, e1, rfl⟩ := loop (fun n i (x : List Int) => F15c5 n (selOf b) ((selOf b).length : Int) i 0 false (vecOf e.f_Type (EV C (selOf b) e)).f_Type (vecOf e.f_Type (EV C (selOf b) e)).ints (vecOf e.f_Type (EV C (selOf b) e)).texts (vecOf e.f_Type (EV C (selOf b) e)).nulls (cols C) b.len false [] [] x) (selOf b).length 1 0 (fun i x => x = ((selOf b).take i).filter (Pt C e)) (fun r => r = ((filt C e b, ()), ()))
  (fun n x _ hx => by
   rw [List.take_length] at hx
   subst hx
   exact ⟨_, by rw [F15c5_eq, cdf (by omega)], by unfold filt; rw [h.cols]⟩)
  (fun n i x hi hx => by
   have hl : i < (EV C (selOf b) e).length := by rw [EV_len]; exact hi
   have hxl : x.length ≤ 1000 := by rw [hx]; exact Nat.le_trans (List.length_filter_le _ _) (by rw [List.length_take]; omega)
   refine .inl ⟨n, ((selOf b).take (i + 1)).filter (Pt C e), Nat.le_refl _, ?_, rfl⟩
   rw [F15c5_eq, cdt (by omega), gd hi, vec_eta, bnd (truth_run hc hl), w1 (by omega), filter_take hi, ← hx]
   dsimp only
   rw [tv_one (hc.get hl).1, EV_get hi, show isT (ev (rowOf C ((selOf b).getD i 0).toNat) e) = Pt C e ((selOf b).getD i 0) from rfl, if_pos (by unfold lim; omega), Int.toNat_natCast]
   cases Pt C e ((selOf b).getD i 0) with
   | true => rfl
   | false => rw [cf, cf, List.append_nil]) (selOf b).length 4000000 0 [] (by omega) (by omega) (by omega) (by simp)
 exact e1
/-! ## Project -/
noncomputable def proj (C : Tabl) (l : List Ex) (b : Batch) : Batch := ⟨l.map fun e => vecOf e.f_Type (EV C (selOf b) e), ((selOf b).length : Int), true, []⟩
end Go.Proofs.Tryz
