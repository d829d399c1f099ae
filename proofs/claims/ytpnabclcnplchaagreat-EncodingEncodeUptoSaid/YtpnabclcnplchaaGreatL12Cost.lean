/- Law 12: Costs and Choose. -/
import Derived.Test.YtpnabclcnplchaaGreatL12Enc4
set_option linter.unusedVariables false
set_option linter.unusedSimpArgs false
namespace Go.Proofs.Tryz
open Go.Eng
def cst (v : Vec) (k : Int) : Int := if app k v.f_Type = true then 1 + ((bodyE v k).length : Int) else -1
def csts (v : Vec) (i : Nat) : List Cost := (List.range i).map fun (j : Nat) => ({ encoding := (j : Int), bytes := cst v (j : Int) } : Cost)
theorem csts_len (v : Vec) (i : Nat) : (csts v i).length = i := by simp [csts]
theorem csts_succ (v : Vec) (i : Nat) : csts v (i + 1) = csts v i ++ [{ encoding := (i : Int), bytes := cst v (i : Int) }] := by
 unfold csts
 rw [List.range_succ, List.map_append]
 rfl
theorem csts_get {v : Vec} {i j : Nat} (h : j < i) : (csts v i).getD j zCost = { encoding := (j : Int), bytes := cst v (j : Int) } := by
 rw [List.getD_eq_getElem?_getD, csts, List.getElem?_map, List.getElem?_range h]
 rfl
theorem costs_c3 {v : Vec} (hF : Fit v) (t1 : 1 ≤ v.f_Type) (t2 : v.f_Type ≤ 3) : ∀ (d i n : Nat), 6 - i = d → i ≤ 6 → 2 * d < n → F14c3 n (i : Int) v (csts v i) = some ((csts v 6, ()), ())
 | 0, i, n, hd, hi, hn => by
  obtain ⟨n, rfl⟩ : ∃ n', n = n' + 1 := ⟨n - 1, by omega⟩
  have : i = 6 := by omega
  subst this
  rw [F14c3_eq, decide_eq_false (by omega), cond_false]
 | d + 1, i, n, hd, hi, hn => by
  obtain ⟨n, rfl⟩ : ∃ n', n = n' + 2 := ⟨n - 2, by omega⟩
  have ih := costs_c3 hF t1 t2 d (i + 1) n (by omega) (by omega) (by omega)
  have hl := bodyE_len hF (i : Int)
  have hnext : F14c9 (n + 1) (i : Int) v (csts v i) ({ encoding := (i : Int), bytes := cst v (i : Int) } : Cost) = some ((csts v 6, ()), ()) := by
   rw [F14c9_eq, if_pos (by rw [csts_len]; simp only [lim]; omega), wrap64_id (by omega) (by omega), ← csts_succ]
   exact ih
  rw [F14c3_eq, decide_eq_true (by omega), cond_true, app_run (by omega) (by omega) t1 t2, Option.bind_some]
  dsimp only
  unfold cst at hnext
  cases ha : app (i : Int) v.f_Type with
  | false =>
   rw [ha, if_neg (by decide)] at hnext
   exact hnext
  | true =>
   rw [ha, if_pos rfl] at hnext
   rw [Bool.not_true, cond_false]
   generalize hk : (i : Int) = k at *
   rcases six (k := k) (by omega) (by omega) with hk | hk | hk | hk | hk | hk
   ·have hb : bodyE v k = plE v := by unfold bodyE; rw [if_pos hk]
    rw [decide_eq_false (show ¬ k = 1 by omega), cond_false, decide_eq_false (show ¬ k = 2 by omega), cond_false, decide_eq_false (show ¬ k = 3 by omega), cond_false, decide_eq_false (show ¬ k = 4 by omega), cond_false, decide_eq_false (show ¬ k = 5 by omega), cond_false, e6_run hF, Option.bind_some, ← hb]
    dsimp only
    rw [wrap64_id (by omega) (by omega)]
    exact hnext
   ·have hb : bodyE v k = rleT (runsT v.ints) := by unfold bodyE; rw [if_neg (by omega), if_pos hk]
    rw [decide_eq_true (show k = 1 from hk), cond_true, e1_run hF, Option.bind_some, ← hb]
    dsimp only
    rw [wrap64_id (by omega) (by omega)]
    exact hnext
   ·have hb : bodyE v k = frE v.ints := by unfold bodyE; rw [if_neg (by omega), if_neg (by omega), if_pos hk]
    rw [decide_eq_false (show ¬ k = 1 by omega), cond_false, decide_eq_true (show k = 2 from hk), cond_true, e2_run hF, Option.bind_some, ← hb]
    dsimp only
    rw [wrap64_id (by omega) (by omega)]
    exact hnext
   ·have hb : bodyE v k = dlE v.ints := by unfold bodyE; rw [if_neg (by omega), if_neg (by omega), if_neg (by omega), if_pos hk]
    rw [decide_eq_false (show ¬ k = 1 by omega), cond_false, decide_eq_false (show ¬ k = 2 by omega), cond_false, decide_eq_true (show k = 3 from hk), cond_true, e3_run hF, Option.bind_some, ← hb]
    dsimp only
    rw [wrap64_id (by omega) (by omega)]
    exact hnext
   ·have hb : bodyE v k = encT v.texts := by unfold bodyE; rw [if_neg (by omega), if_neg (by omega), if_neg (by omega), if_neg (by omega), if_pos hk]
    rw [decide_eq_false (show ¬ k = 1 by omega), cond_false, decide_eq_false (show ¬ k = 2 by omega), cond_false, decide_eq_false (show ¬ k = 3 by omega), cond_false, decide_eq_true (show k = 4 from hk), cond_true, e4_run hF, Option.bind_some, ← hb]
    dsimp only
    rw [wrap64_id (by omega) (by omega)]
    exact hnext
   ·have hb : bodyE v k = fcB v.texts v.texts.length := by unfold bodyE; rw [if_neg (by omega), if_neg (by omega), if_neg (by omega), if_neg (by omega), if_neg (by omega)]
    rw [decide_eq_false (show ¬ k = 1 by omega), cond_false, decide_eq_false (show ¬ k = 2 by omega), cond_false, decide_eq_false (show ¬ k = 3 by omega), cond_false, decide_eq_false (show ¬ k = 4 by omega), cond_false, decide_eq_true (show k = 5 from hk), cond_true, e5_run hF, Option.bind_some, ← hb]
    dsimp only
    rw [wrap64_id (by omega) (by omega)]
    exact hnext
theorem costs_run {v : Vec} (hv : okV v = true) (hs : vsz v ≤ 10000) (hx : okL v.ints) : F14.run [PK.v (Ty.nm 0)] [RK.own 38 (Ty.nm 1)] 4000000 (v, ()) = some ((csts v 6, ()), ()) := by
 obtain ⟨t1, t2, _⟩ := okV_spec hv
 rw [show F14.run [PK.v (Ty.nm 0)] [RK.own 38 (Ty.nm 1)] 4000000 (v, ()) = _ from (F14_run _ _).trans (F14c1_eq 3999999 _)]
 exact costs_c3 (okV_fit hv hs hx) t1 t2 6 0 3999999 (by omega) (by omega) (by omega)
/-! The choice. -/
def cho (v : Vec) : Nat → Nat
 | 0 => 0
 | i + 1 => if 0 ≤ cst v (i : Int) ∧ cst v (i : Int) < cst v ((cho v i : Nat) : Int) then i else cho v i
theorem cst0 (v : Vec) : 0 ≤ cst v 0 := by
 unfold cst
 rw [if_pos (by rfl)]
 omega
theorem cho_spec (v : Vec) : ∀ i, 1 ≤ i → cho v i < i ∧ 0 ≤ cst v ((cho v i : Nat) : Int) ∧ ∀ j, j < i → 0 ≤ cst v (j : Int) → cst v ((cho v i : Nat) : Int) ≤ cst v (j : Int)
 | 0, h => by omega
 | 1, _ => by
  have : cho v 1 = 0 := by simp [cho]
  rw [this]
  refine ⟨by omega, cst0 v, fun j hj _ => ?_⟩
  rw [show j = 0 by omega]
  exact Int.le_refl _
 | i + 2, _ => by
  obtain ⟨h1, h2, h3⟩ := cho_spec v (i + 1) (by omega)
  rw [show cho v (i + 2) = if 0 ≤ cst v ((i + 1 : Nat) : Int) ∧ cst v ((i + 1 : Nat) : Int) < cst v ((cho v (i + 1) : Nat) : Int) then i + 1 else cho v (i + 1) from rfl]
  by_cases h : 0 ≤ cst v ((i + 1 : Nat) : Int) ∧ cst v ((i + 1 : Nat) : Int) < cst v ((cho v (i + 1) : Nat) : Int)
  ·rw [if_pos h]
   refine ⟨by omega, h.1, fun j hj h0 => ?_⟩
   rcases Nat.lt_or_ge j (i + 1) with h' | h'
   ·have := h3 j h' h0
    omega
   ·rw [show j = i + 1 by omega]
    exact Int.le_refl _
  ·rw [if_neg h]
   refine ⟨by omega, h2, fun j hj h0 => ?_⟩
   rcases Nat.lt_or_ge j (i + 1) with h' | h'
   ·exact h3 j h' h0
   ·rw [show j = i + 1 by omega] at h0 ⊢
    omega
theorem bytes_run (c : Cost) : F37.run [PK.v (Ty.nm 1)] [RK.v (Ty.int .i64)] 4000000 (c, ()) = some ((c.bytes, ()), ()) := F37_run _ _
theorem cheaper_run (a b : Cost) (ha : 0 ≤ a.bytes) : F36.run [PK.v (Ty.nm 1), PK.v (Ty.nm 1), PK.fv 37] [RK.v (Ty.nm 1)] 4000000 (a, b, (), ()) = some ((if 0 ≤ b.bytes ∧ b.bytes < a.bytes then b else a, ()), ()) := by
 rw [show F36.run [PK.v (Ty.nm 1), PK.v (Ty.nm 1), PK.fv 37] [RK.v (Ty.nm 1)] 4000000 (a, b, (), ()) = _ from F36_run _ _ _ _, bytes_run, Option.bind_some]
 dsimp only
 by_cases h : 0 ≤ b.bytes
 ·rw [decide_eq_true h, cond_true, bytes_run, Option.bind_some]
  dsimp only
  rw [decide_eq_false (show ¬ a.bytes < 0 by omega), cond_false, Option.bind_some, Option.bind_some]
  dsimp only
  by_cases h2 : b.bytes < a.bytes
  ·rw [decide_eq_true h2, cond_true, if_pos ⟨h, h2⟩]
  ·rw [decide_eq_false h2, cond_false, if_neg fun x => h2 x.2]
 ·rw [decide_eq_false h, cond_false, if_neg fun x => h x.1]
def cof (v : Vec) (i : Nat) : Cost := { encoding := (i : Int), bytes := cst v (i : Int) }
theorem choose_c4 {v : Vec} {L : List Cost} (hL : L = (csts v 6).drop 1) : ∀ (d i n : Nat), 5 - i = d → i ≤ 5 → d < n → F16c4 n L (5 : Int) (i : Int) (cof v (cho v (i + 1))) = some ((((cho v 6 : Nat) : Int), ()), ())
 | 0, i, n, hd, hi, hn => by
  obtain ⟨n, rfl⟩ : ∃ n', n = n' + 1 := ⟨n - 1, by omega⟩
  have : i = 5 := by omega
  subst this
  rw [F16c4_eq, decide_eq_false (by omega), cond_false]
  rfl
 | d + 1, i, n, hd, hi, hn => by
  obtain ⟨n, rfl⟩ : ∃ n', n = n' + 1 := ⟨n - 1, by omega⟩
  have ih := choose_c4 hL d (i + 1) n (by omega) (by omega) (by omega)
  have hlen : L.length = 5 := by rw [hL, List.length_drop, csts_len]
  have hg : L.getD i zCost = cof v (i + 1) := by
   rw [hL, List.getD_eq_getElem?_getD, List.getElem?_drop, ← List.getD_eq_getElem?_getD, show 1 + i = i + 1 by omega, csts_get (by omega)]
   rfl
  obtain ⟨h1, h2, h3⟩ := cho_spec v (i + 1) (by omega)
  rw [F16c4_eq, decide_eq_true (by omega), cond_true, if_pos (by omega), if_pos (by omega), Int.toNat_natCast, hg, cheaper_run _ _ h2, Option.bind_some]
  dsimp only
  rw [wrap64_id (by omega) (by omega)]
  rw [show cho v (i + 1 + 1) = if 0 ≤ cst v ((i + 1 : Nat) : Int) ∧ cst v ((i + 1 : Nat) : Int) < cst v ((cho v (i + 1) : Nat) : Int) then i + 1 else cho v (i + 1) from rfl] at ih
  by_cases h : 0 ≤ cst v ((i + 1 : Nat) : Int) ∧ cst v ((i + 1 : Nat) : Int) < cst v ((cho v (i + 1) : Nat) : Int)
  ·rw [if_pos h] at ih
   rw [if_pos (show 0 ≤ (cof v (i + 1)).bytes ∧ (cof v (i + 1)).bytes < (cof v (cho v (i + 1))).bytes from h)]
   exact ih
  ·rw [if_neg h] at ih
   rw [if_neg (show ¬ (0 ≤ (cof v (i + 1)).bytes ∧ (cof v (i + 1)).bytes < (cof v (cho v (i + 1))).bytes) from h)]
   exact ih
theorem choose_run {v : Vec} (hv : okV v = true) (hs : vsz v ≤ 10000) (hx : okL v.ints) : F16.run [PK.v (Ty.nm 0)] [RK.v (Ty.int .i64)] 4000000 (v, ()) = some ((((cho v 6 : Nat) : Int), ()), ()) := by
 have hlen := csts_len v 6
 rw [show F16.run [PK.v (Ty.nm 0)] [RK.v (Ty.int .i64)] 4000000 (v, ()) = _ from F16_run _ _, costs_run hv hs hx, Option.bind_some]
 dsimp only
 rw [hlen, if_pos (by omega), if_pos (by omega), if_pos (by omega), show Int.toNat (((6 : Nat) : Int)) = 6 from rfl, show Int.toNat (1 : Int) = 1 from rfl, show Int.toNat (0 : Int) = 0 from rfl, List.take_of_length_le (by omega), csts_get (by omega)]
 have h5 : (((csts v 6).drop 1).length : Int) = 5 := by rw [List.length_drop, csts_len]; rfl
 rw [h5]
 have := choose_c4 (v := v) rfl 5 0 4000000 (by omega) (by omega) (by omega)
 rw [show cho v (0 + 1) = 0 from by simp [cho]] at this
 exact this
end Go.Proofs.Tryz
