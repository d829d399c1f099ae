/- Law 12: EncodingChooses. -/
import Derived.Test.YtpnabclcnplchaaGreatL12Fn8
set_option linter.unusedVariables false
set_option linter.unusedSimpArgs false
namespace Go.Proofs.Tryz
open Go.Eng
theorem encE_in {v : Vec} {k : Int} (hv : okV v = true) (h1 : 0 ≤ k) (h2 : k ≤ 5) : encE v k = if app k v.f_Type = true then (k :: bodyE v k, 0) else ([], 7) := by
 unfold encE
 rw [hv, if_neg (by decide), if_neg (by omega), if_neg (by omega)]
 cases app k v.f_Type <;> rfl
theorem cst_app {v : Vec} {k : Int} : (0 ≤ cst v k) ↔ app k v.f_Type = true := by
 unfold cst
 by_cases h : app k v.f_Type = true
 ·rw [if_pos h]; exact ⟨fun _ => h, fun _ => by omega⟩
 ·rw [if_neg h]; exact ⟨fun h' => by omega, fun h' => absurd h' h⟩
theorem chooses_c8 {v : Vec} (hv : okV v = true) (hs : vsz v ≤ 10000) (hx : okL v.ints) {B : List Int} (hB : (B.length : Int) = cst v ((cho v 6 : Nat) : Int)) : ∀ (d i n : Nat), 6 - i = d → i ≤ 6 → 2 * d < n →
  F8c8 n (i : Int) v (csts v 6) B = some ((true, ()), ())
 | 0, i, n, hd, hi, hn => by
  obtain ⟨n, rfl⟩ : ∃ n', n = n' + 1 := ⟨n - 1, by omega⟩
  rw [F8c8_eq, decide_eq_false (by omega), cond_false]
 | d + 1, i, n, hd, hi, hn => by
  obtain ⟨n, rfl⟩ : ∃ n', n = n' + 2 := ⟨n - 2, by omega⟩
  have hlen := csts_len v 6
  have hmin := (cho_spec v 6 (by omega)).2.2 i (by omega)
  have hnext : F8c9 (n + 1) (i : Int) v (csts v 6) B = some ((true, ()), ()) := by
   rw [F8c9_eq, wrap64_id (by omega) (by omega)]
   exact chooses_c8 hv hs hx hB d (i + 1) n (by omega) (by omega) (by omega)
  rw [F8c8_eq, decide_eq_true (by omega), cond_true, encode_run hs hx, Option.bind_some]
  dsimp only
  simp only [if_pos (show (0 : Int) ≤ (i : Int) by omega), if_pos (show (i : Int) < ((csts v 6).length : Int) by omega)]
  have hg : (csts v 6).getD ((i : Int)).toNat zCost = { encoding := (i : Int), bytes := cst v (i : Int) } := by rw [Int.toNat_natCast]; exact csts_get (by omega)
  generalize (csts v 6).getD ((i : Int)).toNat zCost = c at hg ⊢
  subst hg
  dsimp only
  rw [decide_eq_true (show (i : Int) = (i : Int) from rfl), Bool.not_true, cond_false, encE_in hv (by omega) (by omega)]
  have hc := cst_app (v := v) (k := (i : Int))
  by_cases ha : app (i : Int) v.f_Type = true
  ·have h0 := hc.2 ha
   have hcv : cst v (i : Int) = 1 + ((bodyE v (i : Int)).length : Int) := by unfold cst; rw [if_pos ha]
   rw [if_pos ha]
   dsimp only
   rw [decide_eq_true (show (0 : Int) = 0 from rfl), decide_eq_true h0, decide_eq_true (show true = true from rfl), Bool.not_true, cond_false, cond_true, List.length_cons,
    decide_eq_true (show (((bodyE v (i : Int)).length + 1 : Nat) : Int) = cst v (i : Int) by omega), Bool.not_true, cond_false, decide_eq_false (show ¬ (((bodyE v (i : Int)).length + 1 : Nat) : Int) < (B.length : Int) by have := hmin h0; omega), cond_false]
   exact hnext
  ·have h0 : ¬ 0 ≤ cst v (i : Int) := fun h => ha (hc.1 h)
   rw [if_neg ha]
   dsimp only
   rw [decide_eq_false (show ¬ (7 : Int) = 0 by decide), decide_eq_false h0, decide_eq_true (show false = false from rfl), Bool.not_true, cond_false, cond_false]
   exact hnext
theorem f8_run {v : Vec} (hs : vsz v < 4611686018427387904) (hl : v.texts.length ≤ 3000000) (hx : okL v.ints) : F8.run [.v (.nm 0)] [.v .bool] 4000000 (v, ()) = some ((true, ()), ()) := by
 rw [show F8.run [.v (.nm 0)] [.v .bool] 4000000 (v, ()) = _ from F8_run _ _, small_run hs hl, Option.bind_some]
 dsimp only
 by_cases h : vsz v ≤ 10000
 ·rw [decide_eq_true h, Bool.not_true, cond_false, ren_run, Option.bind_some]
  dsimp only
  cases hv : okV v with
  | false => rw [Bool.not_false, cond_true]
  | true =>
   obtain ⟨c1, c2, c3⟩ := cho_spec v 6 (by omega)
   have hap := cst_app.1 c2
   have he := encE_in (k := ((cho v 6 : Nat) : Int)) hv (by omega) (by omega)
   rw [if_pos hap] at he
   rw [Bool.not_true, cond_false, F8c3_eq (n := 3999999), costs_run hv h hx, Option.bind_some]
   dsimp only
   rw [choose_run hv h hx, Option.bind_some]
   dsimp only
   rw [encode_run h hx, Option.bind_some, he]
   dsimp only
   rw [decide_eq_true (show (0 : Int) = 0 from rfl), Bool.not_true, cond_false, csts_len, decide_eq_true (show (((6 : Nat) : Int)) = 6 from rfl), Bool.not_true, cond_false, F8c7_eq (n := 3999998)]
   exact chooses_c8 hv h hx (by unfold cst; rw [if_pos hap, List.length_cons]; omega) 6 0 3999998 (by omega) (by omega) (by omega)
 ·rw [decide_eq_false h, Bool.not_false, cond_true]
theorem sumL_len {α : Type} (f : α → Nat) (hf : ∀ x, 1 ≤ f x) : ∀ l : List α, l.length ≤ sumL f l
 | [] => Nat.le_refl _
 | x :: r => by
  have := sumL_len f hf r
  have := hf x
  simp only [List.length_cons, sumL]
  omega
theorem tl_sum (v : Vec) : ∀ i, i ≤ v.texts.length → tl v i + sumL (fun s : List Int => s.length + 1) (v.texts.drop i) ≤ sumL (fun s : List Int => s.length + 1) v.texts
 | 0, _ => by simp [tl]
 | i + 1, h => by
  have ih := tl_sum v i (by omega)
  have hlt : i < v.texts.length := by omega
  rw [List.drop_eq_getElem_cons hlt] at ih
  have hg : v.texts.getD i [] = v.texts[i] := by rw [List.getD_eq_getElem?_getD, List.getElem?_eq_getElem hlt]; rfl
  simp only [sumL] at ih
  rw [show tl v (i + 1) = tl v i + (v.texts.getD i []).length from rfl, hg]
  omega
theorem vec_args {v : Vec} {m : Nat} (hm : measK NN 1 0 v ≤ m) : vsz v ≤ 2 * m ∧ v.texts.length ≤ m := by
 have h : 1 + (sumL (fun _ : Int => 1) v.ints + 1 + (sumL (fun s : List Int => s.length + 1) v.texts + 1 + (sumL (fun _ : Bool => 1) v.nulls + 1 + 0))) + 1 ≤ m := hm
 have h1 := sumL_len (fun _ : Int => 1) (fun _ => Nat.le_refl _) v.ints
 have h2 := sumL_len (fun s : List Int => s.length + 1) (fun _ => by omega) v.texts
 have h3 := sumL_len (fun _ : Bool => 1) (fun _ => Nat.le_refl _) v.nulls
 have h4 := tl_sum v v.texts.length (Nat.le_refl _)
 unfold vsz
 omega
theorem vec_okL {v : Vec} (h : okK NN 1 0 v) : okL v.ints := by
 obtain ⟨_, h2, _⟩ := h
 intro x hx
 have h3 : (Lit.int .i64 x).wf = true := h2 x hx
 simp only [Lit.wf, Bool.and_eq_true, decide_eq_true_eq] at h3
 exact ⟨h3.1, Int.lt_of_le_of_lt h3.2 (by decide)⟩
theorem law8 (x : HIn NN.ρ [.v (.nm 0)]) (hm : ∀ k, measI k [.v (.nm 0)] x ≤ 1048576) (ho : ∀ k, okI k [.v (.nm 0)] x) :
  ∃ o, F8.run [.v (.nm 0)] [.v .bool] 4000000 x = some ((true, ()), o) := by
 obtain ⟨v, u⟩ := x
 have h1 : measK NN 1 0 v + 0 ≤ 1048576 := hm 1
 obtain ⟨a, b⟩ := vec_args (m := 1048576) (by omega)
 exact ⟨(), f8_run (by omega) (by omega) (vec_okL (ho 1).1)⟩
end Go.Proofs.Tryz
