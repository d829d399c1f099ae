/- Law 42: VectorevalConjunction. -/
import Derived.Test.YtlkllggdiakpbaaGreatDoorL42Arg
import Derived.Test.YtlkllggdiakpbaaGreatDoorL42Fn7
set_option linter.unusedVariables false
set_option linter.unusedSimpArgs false
namespace Go.Proofs.Tryz
open Go.Eng
abbrev andE (x y : Ex) : Ex := Ex.mk 5 7 zVal [] [] false [x, y] [] [] 0 1
theorem isT_and2 (a b : Val) : isT (andL false [a, b]) = (isT b && isT a) := by
 have hF : ∀ v : Val, isF v = true → isT v = false := fun v h => by
  unfold isF at h; unfold isT
  simp only [Bool.and_eq_true, decide_eq_true_eq] at h
  rw [h.2]; simp
 rw [and2x]
 cases h1 : isF a with
 | true => rw [hF a h1, Bool.and_false]; rfl
 | false =>
  cases h2 : isF b with
  | true => rw [hF b h2]; rfl
  | false => cases isT a <;> cases isT b <;> rfl
theorem ev_and (r : List Val) (x y : Ex) : ev r (andE x y) = andL false [ev r x, ev r y] := by
 rw [ev_eq]
 rfl
theorem Pt_and (C : Tabl) (x y : Ex) (i : Int) : Pt C (andE x y) i = (Pt C y i && Pt C x i) := by
 unfold Pt
 rw [ev_and, isT_and2]
theorem filt_and (C : Tabl) (x y : Ex) (b : Batch) : filt C y (filt C x b) = filt C (andE x y) b := by
 show Batch.mk b.columns b.len false (((selOf b).filter (Pt C x)).filter (Pt C y)) = Batch.mk b.columns b.len false ((selOf b).filter (Pt C (andE x y)))
 rw [List.filter_filter]
 congr 1
 exact List.filter_congr (fun i _ => (Pt_and C x y i).symm)
theorem filt_and2 (C : Tabl) (x y : Ex) (b : Batch) : filt C x (filt C y b) = filt C (andE x y) b := by
 show Batch.mk b.columns b.len false (((selOf b).filter (Pt C y)).filter (Pt C x)) = Batch.mk b.columns b.len false ((selOf b).filter (Pt C (andE x y)))
 rw [List.filter_filter]
 congr 1
 exact List.filter_congr (fun i _ => by rw [Pt_and, Bool.and_comm])
theorem sc_filt {C : Tabl} {L : Nat} {b : Batch} (h : Sc C L b) (e : Ex) : Sc C L (filt C e b) := by
 refine ⟨h.tab, h.cols, ?_, fun h => by cases h⟩
 show Selc L ((selOf b).filter (Pt C e))
 exact ⟨Nat.le_trans (List.length_filter_le _ _) h.sel.few, fun i hi => h.sel.mem i (List.mem_filter.1 hi).1⟩
theorem batch_eta (b : Batch) : Batch.mk b.columns b.len b.all b.sel = b := by cases b; rfl
theorem f7_same {e : Ex} {b : Batch} (hB : BOk b) (hS : Sc (tabl b) b.len.toNat b) :
  F14.run [PK.v (Ty.nm 2), PK.v (Ty.nm 2)] [RK.v Ty.bool] 4000000 (filt (tabl b) e b, filt (tabl b) e b, ()) = some ((true, ()), ()) := by
 have hf := hB.few
 have h1 : (filt (tabl b) e b).sel.length ≤ 1000 := by
  unfold filt
  exact Nat.le_trans (List.length_filter_le _ _) hS.sel.few
 have h2 : (filt (tabl b) e b).columns.length ≤ 1000 := by
  unfold filt
  exact Nat.le_trans hf (by decide)
 have h3 : ∀ v ∈ (filt (tabl b) e b).columns, Sml v := by
  unfold filt
  exact fun v hv => sml_cols hB v hv
 exact eqb_run h1 h2 h3
theorem f7_body {x y : Ex} {b : Batch} (hB : BOk b) (hS : Sc (tabl b) b.len.toNat b) (hC : (tabl b).length ≤ 1000) (hx : Ok42 (tabl b) x) (hy : Ok42 (tabl b) y) (hz : sz x + sz y ≤ 99000) : F7c3 4000000 x y b = some ((true, ()), ()) := by
 have hsz : sz (andE x y) ≤ 100000 := by
  rw [sz_eq]
  simp only [szL, szO]
  omega
 obtain ⟨c, h1, h2⟩ := guard_run hS.cols hC hsz
 have h0 := F7c3_eq 3999999 x y b
 rw [bnd h1] at h0
 dsimp only at h0
 cases c with
 | false => rw [Bool.not_false, ct] at h0; exact h0
 | true =>
  have ha : Ok42 (tabl b) (andE x y) := ⟨hsz, h2 rfl, .mk rv_z (fun a ha => by
   rcases List.mem_cons.1 ha with rfl | ha
   ·exact hx.lit
   ·rw [List.mem_singleton.1 ha]; exact hy.lit)⟩
  rw [Bool.not_true, cf, bnd (pfilter_run hS hx)] at h0
  dsimp only at h0
  rw [bnd (pfilter_run (sc_filt hS x) hy), bnd (pfilter_run hS hy)] at h0
  dsimp only at h0
  rw [bnd (pfilter_run (sc_filt hS y) hx), bnd (pfilter_run hS ha)] at h0
  dsimp only at h0
  rw [batch_eta, batch_eta, batch_eta, filt_and, filt_and2, bnd (f7_same hB hS)] at h0
  dsimp only at h0
  rw [ct, bnd (f7_same hB hS)] at h0
  dsimp only at h0
  rw [ct] at h0
  exact h0
theorem f7_run {x y : Ex} {b : Batch} {k : Nat} (hz : sz x + sz y ≤ 99000) (hx : Lit x) (hy : Lit y) (hc : ∀ v ∈ b.columns, v.nulls.length ≤ 1100000) (hs : b.sel.length ≤ 1100000) (ho : okK NN (k + 2) 2 b) : F7.run [.v (.nm 1), .v (.nm 1), .v (.nm 2)] [.v (.bool)] 4000000 (x, y, b, ()) = some ((true, ()), ()) := by
 obtain ⟨c, h1, h2⟩ := small_run hc hs
 rw [F7_run, bnd h1]
 dsimp only
 cases c with
 | false => rw [Bool.not_false, ct]
 | true =>
  have hB := h2 rfl
  obtain ⟨hS, hC⟩ := sc_of hB ho
  obtain ⟨d, h3, h4⟩ := guard_run (e := x) hS.cols hC (by omega)
  rw [Bool.not_true, cf, bnd h3]
  dsimp only
  cases d with
  | false => rw [Bool.not_false, ct]
  | true =>
   obtain ⟨d, h5, h6⟩ := guard_run (e := y) hS.cols hC (by omega)
   rw [Bool.not_true, cf, bnd h5]
   dsimp only
   cases d with
   | false => rw [Bool.not_false, ct]
   | true =>
    rw [Bool.not_true, cf]
    cases decide (x.f_Type = 1) with
    | false => rw [Bool.not_false, ct]
    | true =>
     rw [Bool.not_true, cf]
     cases decide (y.f_Type = 1) with
     | false => rw [Bool.not_false, ct]
     | true =>
      rw [Bool.not_true, cf]
      exact f7_body hB hS hC ⟨by omega, h4 rfl, hx⟩ ⟨by omega, h6 rfl, hy⟩ hz
theorem law7 (x : HIn NN.ρ [.v (.nm 1), .v (.nm 1), .v (.nm 2)]) (hm : ∀ k, measI k [.v (.nm 1), .v (.nm 1), .v (.nm 2)] x ≤ 1048576) (ho : ∀ k, okI k [.v (.nm 1), .v (.nm 1), .v (.nm 2)] x) :
  ∃ o, F7.run [.v (.nm 1), .v (.nm 1), .v (.nm 2)] [.v .bool] 4000000 x = some ((true, ()), o) := by
 obtain ⟨x, y, b, u⟩ := x
 have h0 : ∀ k, mEx k x + (mEx k y + (measK NN k 2 b + 0)) ≤ 1048576 := fun k => hm k
 have h1 := meas_sz (2 * (sz x + sz y)) x (by omega)
 have h1' := meas_sz (2 * (sz x + sz y)) y (by omega)
 have h3 := h0 (2 * (sz x + sz y))
 have h2 : measK NN 2 2 b ≤ 1048576 := by have := h0 2; omega
 have hlen := batch_len (k := 0) (b := b) (B := 1048576) h2
 exact ⟨(), f7_run (k := 0) (by omega) (okEx (sz x) x (Nat.le_refl _) (ho (sz x + 1)).1) (okEx (sz y) y (Nat.le_refl _) (ho (sz y + 1)).2.1) (fun v hv => by have := hlen.1 v hv; omega) (by have := hlen.2; omega) (ho 2).2.2.1⟩
end Go.Proofs.Tryz
