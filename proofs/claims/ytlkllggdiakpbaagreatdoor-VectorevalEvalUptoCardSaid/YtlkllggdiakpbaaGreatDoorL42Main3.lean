/- Law 42: VectorevalEval. -/
import Derived.Test.YtlkllggdiakpbaaGreatDoorL42Arg
import Derived.Test.YtlkllggdiakpbaaGreatDoorL42Fn3
set_option linter.unusedVariables false
set_option linter.unusedSimpArgs false
namespace Go.Proofs.Tryz
open Go.Eng
theorem f3_eval {e : Ex} {b : Batch} (hB : BOk b) (hS : Sc (tabl b) b.len.toNat b) (he : Ok42 (tabl b) e) :
  F11.run [PK.v (Ty.nm 3), PK.v (Ty.nm 3)] [RK.v Ty.bool] 4000000 (vecOf e.f_Type (EV (tabl b) (selOf b) e), vecOf e.f_Type (EV (tabl b) (selOf b) e), ()) = some ((true, ()), ()) := by
 have hv := sml_vec (t := e.f_Type) (l := EV (tabl b) (selOf b) e) (by rw [EV_len]; exact hS.sel.few)
 exact eqv_run (Nat.le_trans hv.nulls (by decide)) (Nat.le_trans hv.ints (by decide)) (Nat.le_trans hv.texts (by decide))
theorem f3_filt {e : Ex} {b : Batch} (hB : BOk b) (hS : Sc (tabl b) b.len.toNat b) :
  F14.run [PK.v (Ty.nm 2), PK.v (Ty.nm 2)] [RK.v Ty.bool] 4000000 (filt (tabl b) e b, filt (tabl b) e b, ()) = some ((true, ()), ()) := by
 have hf := hB.few
 have h1 : (filt (tabl b) e b).sel.length ≤ 1000 := by
  unfold filt
  exact Nat.le_trans (List.length_filter_le _ _) hS.sel.few
 have h2 : (filt (tabl b) e b).columns.length ≤ 1000 := by
  unfold filt
  exact Nat.le_trans hf (by decide)
 have h3 : ∀ v ∈ (filt (tabl b) e b).columns, Sml v := by
  unfold filt
  exact fun v hv => sml_cols hB v hv
 exact eqb_run h1 h2 h3
theorem f3_body {e : Ex} {b : Batch} (hB : BOk b) (hS : Sc (tabl b) b.len.toNat b) (hC : (tabl b).length ≤ 1000) (he : Ok42 (tabl b) e) : F3c3 4000000 e b = some ((true, ()), ()) := by
 have h0 := F3c3_eq 3999999 e b
 rw [bnd (peval_run hS he), bnd (reval_run hB hS hC he)] at h0
 dsimp only at h0
 rw [bnd (f3_eval hB hS he)] at h0
 dsimp only at h0
 rw [ct, bnd (pfilter_run hS he), bnd (rfilter_run hB hS hC he)] at h0
 dsimp only at h0
 rw [bnd (f3_filt hB hS)] at h0
 dsimp only at h0
 rw [ct] at h0
 exact h0
theorem f3_run {e : Ex} {b : Batch} {k : Nat} (hz : sz e ≤ 100000) (hl : Lit e) (hc : ∀ v ∈ b.columns, v.nulls.length ≤ 1100000) (hs : b.sel.length ≤ 1100000) (ho : okK NN (k + 2) 2 b) : F3.run [.v (.nm 1), .v (.nm 2)] [.v (.bool)] 4000000 (e, b, ()) = some ((true, ()), ()) := by
 obtain ⟨c, h1, h2⟩ := small_run hc hs
 rw [F3_run, bnd h1]
 dsimp only
 cases c with
 | false => rw [Bool.not_false, ct]
 | true =>
  have hB := h2 rfl
  obtain ⟨hS, hC⟩ := sc_of hB ho
  obtain ⟨d, h3, h4⟩ := guard_run hS.cols hC hz
  rw [Bool.not_true, cf, bnd h3]
  dsimp only
  cases d with
  | false => rw [Bool.not_false, ct]
  | true =>
   rw [Bool.not_true, cf]
   exact f3_body hB hS hC ⟨hz, h4 rfl, hl⟩
theorem law3 (x : HIn NN.ρ [.v (.nm 1), .v (.nm 2)]) (hm : ∀ k, measI k [.v (.nm 1), .v (.nm 2)] x ≤ 1048576) (ho : ∀ k, okI k [.v (.nm 1), .v (.nm 2)] x) :
  ∃ o, F3.run [.v (.nm 1), .v (.nm 2)] [.v .bool] 4000000 x = some ((true, ()), o) := by
 obtain ⟨e, b, u⟩ := x
 have h0 : ∀ k, mEx k e + (measK NN k 2 b + 0) ≤ 1048576 := fun k => hm k
 have h' := size_of_meas (e := e) (B := 1048576) (fun k => by have := h0 k; omega)
 have h2 : measK NN 2 2 b ≤ 1048576 := by have := h0 2; omega
 have hlen := batch_len (k := 0) (b := b) (B := 1048576) h2
 exact ⟨(), f3_run (k := 0) (by omega) (okEx (sz e) e (Nat.le_refl _) (ho (sz e + 1)).1) (fun v hv => by have := hlen.1 v hv; omega) (by have := hlen.2; omega) (ho 2).2.1⟩
end Go.Proofs.Tryz
