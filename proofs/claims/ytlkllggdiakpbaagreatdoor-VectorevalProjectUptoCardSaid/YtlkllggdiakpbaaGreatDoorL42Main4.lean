/- Law 42: VectorevalProject. -/
import Derived.Test.YtlkllggdiakpbaaGreatDoorL42Arg
import Derived.Test.YtlkllggdiakpbaaGreatDoorL42Fn4
set_option linter.unusedVariables false
set_option linter.unusedSimpArgs false
namespace Go.Proofs.Tryz
open Go.Eng
theorem f4_same {l : List Ex} {b : Batch} (hl : l.length ≤ 1000) (hf : (selOf b).length ≤ 1000) :
  F14.run [PK.v (Ty.nm 2), PK.v (Ty.nm 2)] [RK.v Ty.bool] 4000000 (proj (tabl b) l b, proj (tabl b) l b, ()) = some ((true, ()), ()) := by
 have h1 : (proj (tabl b) l b).sel.length ≤ 1000 := by unfold proj; exact Nat.zero_le _
 have h2 : (proj (tabl b) l b).columns.length ≤ 1000 := by unfold proj; rw [List.length_map]; exact hl
 have h3 : ∀ v ∈ (proj (tabl b) l b).columns, Sml v := by
  unfold proj
  intro v hv
  obtain ⟨e, _, rfl⟩ := List.mem_map.1 hv
  exact sml_vec (by rw [EV_len]; exact hf)
 exact eqb_run h1 h2 h3
theorem f4_end {l : List Ex} {b : Batch} (n : Nat) (hB : BOk b) (hS : Sc (tabl b) b.len.toNat b) (hC : (tabl b).length ≤ 1000) (hl : l.length ≤ 1000) (he : ∀ e ∈ l, Ok42 (tabl b) e) (i : Int) (hi : ¬ i < (l.length : Int)) : F4c4 (n + 1) l i b = some ((true, ()), ()) := by
 have h0 := F4c4_eq n l i b
 rw [cdf hi, bnd (pproject_run hS hl he), bnd (rproject_run hB hS hC hl he)] at h0
 dsimp only at h0
 rw [bnd (f4_same hl hS.sel.few)] at h0
 dsimp only at h0
 rw [ct] at h0
 exact h0
theorem f4_body {l : List Ex} {b : Batch} (hB : BOk b) (hS : Sc (tabl b) b.len.toNat b) (hC : (tabl b).length ≤ 1000) (hl : l.length ≤ 1000) (hz : ∀ e ∈ l, sz e ≤ 100000 ∧ Lit e) : F4c4 3999999 l 0 b = some ((true, ()), ()) := by
 obtain ⟨r, e1, rfl⟩ := loop (fun n i (_ : Unit) => F4c4 n l i b) l.length 1 0 (fun i _ => ∀ e ∈ l.take i, Ok42 (tabl b) e) (fun r => r = ((true, ()), ()))
  (fun n _ _ hx => by
   rw [List.take_length] at hx
   exact ⟨_, f4_end n hB hS hC hl hx _ (by omega), rfl⟩)
  (fun n i _ hi hx => by
   have hm := getD_mem hi zEx
   obtain ⟨h1, h2⟩ := hz _ hm
   obtain ⟨c, h3, h4⟩ := guard_run hS.cols hC h1
   have h0 := F4c4_eq n l i b
   rw [cdt (show (i : Int) < (l.length : Int) by omega), gd hi, Int.toNat_natCast, bnd h3, w1 (by omega)] at h0
   dsimp only at h0
   cases c with
   | false => rw [Bool.not_false, ct] at h0; exact .inr ⟨_, h0, rfl⟩
   | true =>
    rw [Bool.not_true, cf] at h0
    refine .inl ⟨n, (), Nat.le_refl _, h0, fun e he => ?_⟩
    rw [List.take_succ_eq_append_getElem hi] at he
    rcases List.mem_append.1 he with h | h
    ·exact hx e h
    ·rw [List.mem_singleton.1 h, ← getD_eq hi (d := zEx)]
     exact ⟨h1, h4 rfl, h2⟩) l.length 3999999 0 () (by omega) (by omega) (by omega) (by simp)
 exact e1
theorem f4_run {l : List Ex} {b : Batch} {k : Nat} (hz : ∀ e ∈ l, sz e ≤ 100000 ∧ Lit e) (hc : ∀ v ∈ b.columns, v.nulls.length ≤ 1100000) (hs : b.sel.length ≤ 1100000) (ho : okK NN (k + 2) 2 b) : F4.run [.v (.sl (.nm 1)), .v (.nm 2)] [.v (.bool)] 4000000 (l, b, ()) = some ((true, ()), ()) := by
 obtain ⟨c, h1, h2⟩ := small_run hc hs
 rw [F4_run, bnd h1]
 dsimp only
 cases c with
 | false => rw [Bool.not_false, ct]
 | true =>
  have hB := h2 rfl
  obtain ⟨hS, hC⟩ := sc_of hB ho
  rw [Bool.not_true, cf]
  by_cases h10 : (10 : Int) < (l.length : Int)
  ·rw [cdt h10]
  ·rw [cdf h10, show F4c3 4000000 l b = _ from F4c3_eq 3999999 l b]
   exact f4_body hB hS hC (by omega) hz
theorem law4 (x : HIn NN.ρ [.v (.sl (.nm 1)), .v (.nm 2)]) (hm : ∀ k, measI k [.v (.sl (.nm 1)), .v (.nm 2)] x ≤ 1048576) (ho : ∀ k, okI k [.v (.sl (.nm 1)), .v (.nm 2)] x) :
  ∃ o, F4.run [.v (.sl (.nm 1)), .v (.nm 2)] [.v .bool] 4000000 x = some ((true, ()), o) := by
 obtain ⟨l, b, u⟩ := x
 have h0 : ∀ k, (sumL (mEx k) l + 1) + (measK NN k 2 b + 0) ≤ 1048576 := fun k => hm k
 have h2 : measK NN 2 2 b ≤ 1048576 := by have := h0 2; omega
 have hlen := batch_len (k := 0) (b := b) (B := 1048576) h2
 refine ⟨(), f4_run (k := 0) (fun e he => ?_) (fun v hv => by have := hlen.1 v hv; omega) (by have := hlen.2; omega) (ho 2).2.1⟩
 have h' := size_of_meas (e := e) (B := 1048576) (fun k => by have := h0 k; have := sumL_in (mEx k) he; omega)
 exact ⟨by omega, okEx (sz e) e (Nat.le_refl _) ((ho (sz e + 1)).1 e he)⟩
end Go.Proofs.Tryz
