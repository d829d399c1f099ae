/- Law 12: EncodingChooses. -/
import Derived.Test.YtpnabclcnplchaaGreatL12Fn8
set_option linter.unusedVariables false
set_option linter.unusedSimpArgs false
namespace Go.Proofs.Tryz
open Go.Eng
theorem sumL_len {α : Type} (f : α → Nat) (hf : ∀ x, 1 ≤ f x) : ∀ l : List α, l.length ≤ sumL f l
 | [] => Nat.le_refl _
 | x :: r => by
  have := sumL_len f hf r
  have := hf x
  simp only [List.length_cons, sumL]
  omega
theorem tl_sum (v : Vec) : ∀ i, i ≤ v.texts.length → tl v i + sumL (fun s : List Int => s.length + 1) (v.texts.drop i) ≤ sumL (fun s : List Int => s.length + 1) v.texts
 | 0, _ => by simp [tl]
 | i + 1, h => by
  have ih := tl_sum v i (by omega)
  have hlt : i < v.texts.length := by omega
  rw [List.drop_eq_getElem_cons hlt] at ih
  have hg : v.texts.getD i [] = v.texts[i] := by rw [List.getD_eq_getElem?_getD, List.getElem?_eq_getElem hlt]; rfl
  simp only [sumL] at ih
  rw [show tl v (i + 1) = tl v i + (v.texts.getD i []).length from rfl, hg]
  omega
theorem vec_args {v : Vec} {m : Nat} (hm : measK NN 1 0 v ≤ m) : vsz v ≤ 2 * m ∧ v.texts.length ≤ m := by
 have h : 1 + (sumL (fun _ : Int => 1) v.ints + 1 + (sumL (fun s : List Int => s.length + 1) v.texts + 1 + (sumL (fun _ : Bool => 1) v.nulls + 1 + 0))) + 1 ≤ m := hm
 have h1 := sumL_len (fun _ : Int => 1) (fun _ => Nat.le_refl _) v.ints
 have h2 := sumL_len (fun s : List Int => s.length + 1) (fun _ => by omega) v.texts
 have h3 := sumL_len (fun _ : Bool => 1) (fun _ => Nat.le_refl _) v.nulls
 have h4 := tl_sum v v.texts.length (Nat.le_refl _)
 unfold vsz
 omega
theorem vec_okL {v : Vec} (h : okK NN 1 0 v) : okL v.ints := by
 obtain ⟨_, h2, _⟩ := h
 intro x hx
 have h3 : (Lit.int .i64 x).wf = true := h2 x hx
 simp only [Lit.wf, Bool.and_eq_true, decide_eq_true_eq] at h3
 exact ⟨h3.1, Int.lt_of_le_of_lt h3.2 (by decide)⟩
end Go.Proofs.Tryz
