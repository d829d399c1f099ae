/- Law 12: the reference's Encode, Costs and Choose. -/
import Derived.Test.YtpnabclcnplchaaGreatL12Cost
set_option linter.unusedVariables false
set_option linter.unusedSimpArgs false
namespace Go.Proofs.Tryz
open Go.Eng
theorem rform_run {v : Vec} {k : Int} (hv : okV v = true) (hF : Fit v) (h1 : 0 ≤ k) (h2 : k ≤ 5) : F35.run [PK.v (Ty.nm 0), PK.v (Ty.int .i64)] [RK.own 5 (Ty.int IntKind.u8)] 4000000 (v, k, ()) = some ((k :: bodyE v k, ()), ()) := by
 obtain ⟨t1, t2, _, hL, _⟩ := okV_spec hv
 obtain ⟨r1, r2⟩ := runs_okR' hF.okL (by have := hF.ints; omega)
 have hl := bodyE_len hF k
 rw [show F35.run [PK.v (Ty.nm 0), PK.v (Ty.int .i64)] [RK.own 5 (Ty.int IntKind.u8)] 4000000 (v, k, ()) = _ from (F35_run _ _ _).trans (F35c1_eq 3999999 _ _), u8_six h1 h2]
 rcases six h1 h2 with hk | hk | hk | hk | hk | hk
 ·have hb : bodyE v k = plE v := by unfold bodyE; rw [if_pos hk]
  rw [decide_eq_true (show k = 0 from hk), cond_true, rplain_run t1 t2 hL (by have := hF.ints; omega) (by have := hF.texts; omega) hF.okT, Option.bind_some, ← hb]
  dsimp only
  rw [if_pos (by simp only [lim]; omega)]
  rfl
 ·have hb : bodyE v k = rleT (runsT v.ints) := by unfold bodyE; rw [if_neg (by omega), if_pos hk]
  rw [decide_eq_false (show ¬ k = 0 by omega), cond_false, decide_eq_true (show k = 1 from hk), cond_true, rruns_run (by have := hF.ints; omega), Option.bind_some]
  dsimp only
  rw [rrle_run r1 (by have := hF.ints; omega), Option.bind_some, ← hb]
  dsimp only
  rw [if_pos (by simp only [lim]; omega)]
  rfl
 ·have hb : bodyE v k = frE v.ints := by unfold bodyE; rw [if_neg (by omega), if_neg (by omega), if_pos hk]
  rw [decide_eq_false (show ¬ k = 0 by omega), cond_false, decide_eq_false (show ¬ k = 1 by omega), cond_false, decide_eq_true (show k = 2 from hk), cond_true, rframe_run (by have := hF.ints; omega) hF.okL, Option.bind_some, ← hb]
  dsimp only
  rw [if_pos (by simp only [lim]; omega)]
  rfl
 ·have hb : bodyE v k = dlE v.ints := by unfold bodyE; rw [if_neg (by omega), if_neg (by omega), if_neg (by omega), if_pos hk]
  rw [decide_eq_false (show ¬ k = 0 by omega), cond_false, decide_eq_false (show ¬ k = 1 by omega), cond_false, decide_eq_false (show ¬ k = 2 by omega), cond_false, decide_eq_true (show k = 3 from hk), cond_true, rdelta_run (by have := hF.ints; omega) hF.okL, Option.bind_some, ← hb]
  dsimp only
  rw [if_pos (by simp only [lim]; omega)]
  rfl
 ·have hb : bodyE v k = encT v.texts := by unfold bodyE; rw [if_neg (by omega), if_neg (by omega), if_neg (by omega), if_neg (by omega), if_pos hk]
  rw [decide_eq_false (show ¬ k = 0 by omega), cond_false, decide_eq_false (show ¬ k = 1 by omega), cond_false, decide_eq_false (show ¬ k = 2 by omega), cond_false, decide_eq_false (show ¬ k = 3 by omega), cond_false, decide_eq_true (show k = 4 from hk), cond_true, renc_run hF.texts hF.okT, Option.bind_some, ← hb]
  dsimp only
  rw [if_pos (by simp only [lim]; omega)]
  rfl
 ·have hb : bodyE v k = fcB v.texts v.texts.length := by unfold bodyE; rw [if_neg (by omega), if_neg (by omega), if_neg (by omega), if_neg (by omega), if_neg (by omega)]
  rw [decide_eq_false (show ¬ k = 0 by omega), cond_false, decide_eq_false (show ¬ k = 1 by omega), cond_false, decide_eq_false (show ¬ k = 2 by omega), cond_false, decide_eq_false (show ¬ k = 3 by omega), cond_false, decide_eq_false (show ¬ k = 4 by omega), cond_false, rfront_run (by have := hF.texts; omega) hF.okT, Option.bind_some, ← hb]
  dsimp only
  rw [if_pos (by simp only [lim]; omega)]
  rfl
theorem rencode_run {v : Vec} {k : Int} (hs : vsz v ≤ 10000) (hx : okL v.ints) : F12.run [PK.v (Ty.nm 0), PK.v (Ty.int .i64)] [RK.own 5 (Ty.int IntKind.u8), RK.v (Ty.int .i64)] 4000000 (v, k, ()) = some (((encE v k).1, ((encE v k).2, ())), ()) := by
 rw [show F12.run [PK.v (Ty.nm 0), PK.v (Ty.int .i64)] [RK.own 5 (Ty.int IntKind.u8), RK.v (Ty.int .i64)] 4000000 (v, k, ()) = _ from (F12_run _ _ _).trans (F12c1_eq 3999999 _ _), ren_run, Option.bind_some]
 dsimp only
 unfold encE
 cases hv : okV v with
 | false => rfl
 | true =>
  have hF := okV_fit hv hs hx
  obtain ⟨t1, t2, _⟩ := okV_spec hv
  rw [if_neg (by decide), Bool.not_true, cond_false]
  by_cases h0 : k < 0
  ·rw [decide_eq_true h0, cond_true, if_pos h0]
  by_cases h5 : 5 < k
  ·rw [decide_eq_false h0, cond_false, decide_eq_true h5, cond_true, if_neg h0, if_pos h5]
  rw [decide_eq_false h0, cond_false, decide_eq_false h5, cond_false, if_neg h0, if_neg h5, F12c3_eq (n := 3999998), rapp_run (by omega) (by omega) t1 t2, Option.bind_some]
  dsimp only
  cases ha : app k v.f_Type with
  | false => rfl
  | true =>
   rw [if_neg (by decide), Bool.not_true, cond_false, rform_run hv hF (by omega) (by omega), Option.bind_some]
theorem rcosts_c3 {v : Vec} (hv : okV v = true) (hF : Fit v) : ∀ (d i n : Nat), 6 - i = d → i ≤ 6 → 2 * d < n → F15c3 n (i : Int) v (csts v i) = some ((csts v 6, ()), ())
 | 0, i, n, hd, hi, hn => by
  obtain ⟨n, rfl⟩ : ∃ n', n = n' + 1 := ⟨n - 1, by omega⟩
  have : i = 6 := by omega
  subst this
  rw [F15c3_eq, decide_eq_false (by omega), cond_false]
 | d + 1, i, n, hd, hi, hn => by
  obtain ⟨n, rfl⟩ : ∃ n', n = n' + 2 := ⟨n - 2, by omega⟩
  have ih := rcosts_c3 hv hF d (i + 1) n (by omega) (by omega) (by omega)
  obtain ⟨t1, t2, _⟩ := okV_spec hv
  have hnext : F15c8 (n + 1) (i : Int) (cst v (i : Int)) v (csts v i) = some ((csts v 6, ()), ()) := by
   rw [F15c8_eq, if_pos (by rw [csts_len]; simp only [lim]; omega), wrap64_id (by omega) (by omega), ← csts_succ]
   exact ih
  rw [F15c3_eq, decide_eq_true (by omega), cond_true, rapp_run (by omega) (by omega) t1 t2, Option.bind_some]
  dsimp only
  cases ha : app (i : Int) v.f_Type with
  | false =>
   unfold cst at hnext
   rw [ha, if_neg (by decide)] at hnext
   exact hnext
  | true =>
   have hcv : cst v (i : Int) = 1 + ((bodyE v (i : Int)).length : Int) := by unfold cst; rw [if_pos ha]
   rw [cond_true, rform_run hv hF (by omega) (by omega), Option.bind_some]
   dsimp only
   rw [List.length_cons, show (((bodyE v (i : Int)).length + 1 : Nat) : Int) = cst v (i : Int) by omega]
   exact hnext
theorem rcosts_run {v : Vec} (hv : okV v = true) (hF : Fit v) : F15.run [PK.v (Ty.nm 0)] [RK.own 38 (Ty.nm 1)] 4000000 (v, ()) = some ((csts v 6, ()), ()) := by
 rw [show F15.run [PK.v (Ty.nm 0)] [RK.own 38 (Ty.nm 1)] 4000000 (v, ()) = _ from (F15_run _ _).trans (F15c1_eq 3999999 _)]
 exact rcosts_c3 hv hF 6 0 3999999 (by omega) (by omega) (by omega)
theorem rchoose_c4 {v : Vec} : ∀ (d i n : Nat), 6 - i = d → 1 ≤ i → i ≤ 6 → 2 * d < n → F17c4 n ((cho v i : Nat) : Int) (i : Int) (csts v 6) = some ((((cho v 6 : Nat) : Int), ()), ())
 | 0, i, n, hd, h1, hi, hn => by
  obtain ⟨n, rfl⟩ : ∃ n', n = n' + 1 := ⟨n - 1, by omega⟩
  have hlen := csts_len v 6
  have : i = 6 := by omega
  subst this
  rw [F17c4_eq, decide_eq_false (by omega), cond_false]
 | d + 1, i, n, hd, h1, hi, hn => by
  obtain ⟨n, rfl⟩ : ∃ n', n = n' + 2 := ⟨n - 2, by omega⟩
  have ih := rchoose_c4 (v := v) d (i + 1) n (by omega) (by omega) (by omega) (by omega)
  have hlen := csts_len v 6
  obtain ⟨c1, c2, c3⟩ := cho_spec v i h1
  have hg : ∀ j : Nat, j < 6 → ((csts v 6).getD ((j : Int)).toNat zCost).bytes = cst v (j : Int) := fun j hj => by rw [Int.toNat_natCast, csts_get hj]
  rw [show cho v (i + 1) = if 0 ≤ cst v (i : Int) ∧ cst v (i : Int) < cst v ((cho v i : Nat) : Int) then i else cho v i from rfl] at ih
  have hnext : ∀ x : Int, F17c5 (n + 1) x (i : Int) (csts v 6) = F17c4 n x ((i + 1 : Nat) : Int) (csts v 6) := fun x => by
   rw [F17c5_eq, wrap64_id (by omega) (by omega)]
   rfl
  rw [F17c4_eq, decide_eq_true (by omega), cond_true, if_pos (by omega), if_pos (by omega), hg i (by omega), hg (cho v i) (by omega), hnext, hnext]
  by_cases h : 0 ≤ cst v (i : Int)
  ·rw [decide_eq_true h, cond_true, if_pos (by omega), if_pos (by omega), if_pos (by omega), if_pos (by omega)]
   by_cases h2 : cst v (i : Int) < cst v ((cho v i : Nat) : Int)
   ·rw [if_pos ⟨h, h2⟩] at ih
    rw [decide_eq_true h2, cond_true]
    exact ih
   ·rw [if_neg fun x => h2 x.2] at ih
    rw [decide_eq_false h2, cond_false]
    exact ih
  ·rw [if_neg fun x => h x.1] at ih
   rw [decide_eq_false h, cond_false]
   exact ih
theorem rchoose_run {v : Vec} (hv : okV v = true) (hF : Fit v) : F17.run [PK.v (Ty.nm 0)] [RK.v (Ty.int .i64)] 4000000 (v, ()) = some ((((cho v 6 : Nat) : Int), ()), ()) := by
 rw [show F17.run [PK.v (Ty.nm 0)] [RK.v (Ty.int .i64)] 4000000 (v, ()) = _ from F17_run _ _, rcosts_run hv hF, Option.bind_some]
 dsimp only
 have := rchoose_c4 (v := v) 5 1 4000000 (by omega) (by omega) (by omega) (by omega)
 rw [show cho v 1 = 0 from by simp [cho]] at this
 exact this
end Go.Proofs.Tryz
