/- Law 42: expressions as plain data: their size, what is well typed. -/
import Derived.Test.YtlkllggdiakpbaaGreatDoorL42Base
set_option linter.unusedVariables false
set_option linter.unusedSimpArgs false
namespace Go.Proofs.Tryz
open Go.Eng
instance : DecidableEq Val := fun ⟨a, b, c⟩ ⟨x, y, z⟩ =>
 if h : a = x ∧ b = y ∧ c = z then isTrue (by obtain ⟨rfl, rfl, rfl⟩ := h; rfl) else isFalse (fun e => h (by cases e; exact ⟨rfl, rfl, rfl⟩))
/-! ## Guards -/
theorem gd {α : Type} {i L : Nat} (h : i < L) (a b c : α) : (if (0 : Int) ≤ (i : Int) then if (i : Int) < (L : Int) then a else b else c) = a := by
 rw [if_pos (by omega), if_pos (by omega)]
theorem bnd {α β : Type} {o : Option α} {a : α} (h : o = some a) (f : α → Option β) : o.bind f = f a := by rw [h]; rfl
theorem ct {α : Type} (a b : α) : cond true a b = a := Eq.trans (Eq.refl _) rfl
theorem cf {α : Type} (a b : α) : cond false a b = b := Eq.trans (Eq.refl _) rfl
theorem cdt {α : Type} {p : Prop} [Decidable p] (h : p) (a b : α) : (bif decide p then a else b) = a := by rw [decide_eq_true h]; rfl
theorem cdf {α : Type} {p : Prop} [Decidable p] (h : ¬p) (a b : α) : (bif decide p then a else b) = b := by rw [decide_eq_false h]; rfl
theorem w1 {i : Nat} (h : i < 4611686018427387904) : IntKind.i64.wrap ((i : Int) + 1) = ((i + 1 : Nat) : Int) := by
 rw [wrap64_id (by omega) (by omega)]; omega
theorem getD_eq {α : Type} {l : List α} {i : Nat} {d : α} (h : i < l.length) : l.getD i d = l[i] := by
 rw [List.getD_eq_getElem?_getD, List.getElem?_eq_getElem h]; rfl
theorem getD_mem {α : Type} {l : List α} {i : Nat} (h : i < l.length) (d : α) : l.getD i d ∈ l := by rw [getD_eq h]; exact List.getElem_mem h
theorem loop {S R : Type} (f : Nat → Int → S → Option R) (L c d : Nat) (Inv : Nat → S → Prop) (Q : R → Prop)
  (exit : ∀ n s, d ≤ n → Inv L s → ∃ r, f (n + c) (L : Int) s = some r ∧ Q r)
  (step : ∀ n i s, i < L → Inv i s → (∃ n' s', n ≤ n' ∧ f (n + c) (i : Int) s = f n' ((i + 1 : Nat) : Int) s' ∧ Inv (i + 1) s') ∨ (∃ r, f (n + c) (i : Int) s = some r ∧ Q r)) :
  ∀ (m n i : Nat) (s : S), L - i ≤ m → c * m + c + d ≤ n → i ≤ L → Inv i s → ∃ r, f n (i : Int) s = some r ∧ Q r
 | m, n, i, s, hm, h, hi, inv => by
  obtain ⟨n, rfl⟩ : ∃ n', n = n' + c := ⟨n - c, by omega⟩
  rcases Nat.lt_or_ge i L with hl | hl
  ·cases m with
   | zero => omega
   | succ m =>
    rcases step n i s hl inv with ⟨n', s', hn, e, inv'⟩ | h
    ·rw [e]
     exact loop f L c d Inv Q exit step m n' (i + 1) s' (by omega) (by rw [Nat.mul_add] at h; omega) hl inv'
    ·exact h
  ·have : i = L := by omega
   subst this
   exact exit n s (by omega) inv
/-! ## Size -/
mutual
def sz : Ex → Nat
 | ⟨_, _, _, _, _, _, a, p, o, _, _⟩ => szL a + szL p + szO o + 1
def szL : List Ex → Nat
 | [] => 0
 | e :: l => sz e + szL l
def szO : List Ord1 → Nat
 | [] => 0
 | e :: l => szOne e + szO l
def szOne : Ord1 → Nat
 | ⟨e, _⟩ => sz e
end
/-! ## What a law's argument is -/
def mEx (k : Nat) : Ex → Nat := measK NN k 1
def mOrd (k : Nat) : Ord1 → Nat := measK NN k 5
def mVal (k : Nat) : Val → Nat := measK NN k 0
/-! ## Values -/
def nul : Val := ⟨0, 0, []⟩
def vbool (b : Bool) : Val := ⟨1, (bif b then 1 else 0), []⟩
def valid (v : Val) : Bool :=
 if v.kind = 0 then decide (v.int = 0) && decide (v.text = []) else if v.kind = 1 then (decide (v.int = 0) || decide (v.int = 1)) && decide (v.text = [])
 else if v.kind = 2 then decide (v.text = []) else if v.kind = 3 then decide (v.int = 0) && decide (v.text.length ≤ 4096) else false
end Go.Proofs.Tryz
