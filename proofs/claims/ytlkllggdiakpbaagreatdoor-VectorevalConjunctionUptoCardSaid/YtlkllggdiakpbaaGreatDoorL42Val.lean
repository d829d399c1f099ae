/- Law 42: the reference's values: comparing, logic, arithmetic. -/
import Derived.Test.YtlkllggdiakpbaaGreatDoorL42Eqs
import Derived.Test.YtlkllggdiakpbaaGreatDoorL42Typ
set_option linter.unusedVariables false
set_option linter.unusedSimpArgs false
namespace Go.Proofs.Tryz
open Go.Eng
def sgn (a b : Bool) : Int := bif a then -1 else bif b then 1 else 0
def vcmp (a b : Val) : Int :=
 bif !decide (a.kind = b.kind) then sgn (decide (a.kind < b.kind)) true else
 bif decide (a.kind = 3) then sgn (strLt a.text b.text) (strLt b.text a.text) else sgn (decide (a.int < b.int)) (decide (b.int < a.int))
def holdsC (op c : Int) : Bool :=
 bif decide (op = 1) then decide (c = 0) else bif decide (op = 2) then !decide (c = 0) else bif decide (op = 3) then decide (c < 0) else
 bif decide (op = 4) then decide (c ≤ 0) else bif decide (op = 5) then decide (0 < c) else bif decide (op = 6) then decide (0 ≤ c) else false
def vtest (op : Int) (a b : Val) : Val :=
 bif decide (a.kind = 0) then zVal else bif !decide (a.kind = b.kind) then zVal else bif decide (op < 1) then zVal else bif decide (6 < op) then zVal else vbool (holdsC op (vcmp a b))
def isT (v : Val) : Bool := decide (v.kind = 1) && decide (v.int = 1)
def isF (v : Val) : Bool := decide (v.kind = 1) && decide (v.int = 0)
def andL : Bool → List Val → Val
 | u, [] => bif u then zVal else vbool true
 | u, v :: l => bif isF v then vbool false else andL (u || !isT v) l
def orL : Bool → List Val → Val
 | u, [] => bif u then zVal else vbool false
 | u, v :: l => bif isT v then vbool true else orL (u || !isF v) l
theorem drop_consV {l : List Val} {i : Nat} (h : i < l.length) : l.drop i = l.getD i zVal :: l.drop (i + 1) := by
 rw [getD_eq h, List.drop_eq_getElem_cons h]
def vNot (v : Val) : Val := bif !decide (v.kind = 1) then zVal else vbool (decide (v.int = 0))
def intV (n : Int) : Val := ⟨2, n, []⟩
def vNeg (v : Val) : Val := bif !decide (v.kind = 2) then zVal else bif decide (v.int = -9223372036854775808) then zVal else intV (IntKind.i64.wrap (0 - v.int))
def mulV (a b : Int) : Int × Bool :=
 bif decide (a = 0) || decide (b = 0) then (0, true) else bif decide (a = -1) then (IntKind.i64.wrap (0 - b), !decide (b = -9223372036854775808)) else
 bif decide (b = -1) then (IntKind.i64.wrap (0 - a), !decide (a = -9223372036854775808)) else
 (IntKind.i64.wrap (a * b), decide (IntKind.i64.wrap ((IntKind.i64.wrap (a * b)).tdiv b) = a))
def numV (op a b : Int) : Int × Bool :=
 bif decide (op = 9) then (IntKind.i64.wrap (a + b), !((decide (0 < b) && decide (IntKind.i64.wrap (9223372036854775807 - b) < a)) || (decide (b < 0) && decide (a < IntKind.i64.wrap (-9223372036854775808 - b))))) else
 bif decide (op = 10) then (IntKind.i64.wrap (a - b), !((decide (b < 0) && decide (IntKind.i64.wrap (9223372036854775807 + b) < a)) || (decide (0 < b) && decide (a < IntKind.i64.wrap (-9223372036854775808 + b))))) else
 bif decide (op = 11) then mulV a b else
 bif decide (op = 12) then (bif decide (b = 0) then (0, false) else bif decide (a = -9223372036854775808) && decide (b = -1) then (0, false) else (IntKind.i64.wrap (a.tdiv b), true)) else
 bif decide (op = 13) then (bif decide (b = 0) then (0, false) else bif decide (b = -1) then (0, true) else (a.tmod b, true)) else (0, false)
def vArith (op : Int) (a b : Val) : Val :=
 bif !decide (a.kind = 2) then zVal else bif !decide (b.kind = 2) then zVal else bif !(numV op a.int b.int).2 then zVal else intV (numV op a.int b.int).1
def vConcat (a b : Val) : Val :=
 bif !decide (a.kind = 3) then zVal else bif !decide (b.kind = 3) then zVal else bif decide (4096 < a.text.length + b.text.length) then zVal else ⟨3, 0, a.text ++ b.text⟩
def atV (r : List Val) (i : Int) : Val := bif decide (i < 0) then zVal else bif decide ((r.length : Int) ≤ i) then zVal else r.getD i.toNat zVal
/-! ## LIKE -/
theorem like_pct {p s : List Int} {i : Nat} (hs : s.length ≤ 4096) (hi : i < 1000000) : ∀ (d k : Nat) (m : List Bool) (n : Nat), s.length + 1 - k = d → 1 ≤ k → m.length = s.length + 1 → ∃ n' m', n ≤ n' ∧ m'.length = s.length + 1 ∧ F110c9 (n + d + 1) p s i k m = F110c4 n' p s ((i + 1 : Nat) : Int) m'
 | 0, k, m, n, hd, hk, hm => ⟨n, m, Nat.le_refl _, hm, by rw [F110c9_eq, cdf (by omega), w1 (by omega)]⟩
 | d + 1, k, m, n, hd, hk, hm => by
  have e1 : IntKind.i64.wrap ((k : Int) - 1) = ((k - 1 : Nat) : Int) := by rw [wrap64_id (by omega) (by omega)]; omega
  rw [show n + (d + 1) + 1 = (n + d + 1) + 1 from by omega, F110c9_eq, cdt (by omega), e1, gd (by omega), gd (by omega), w1 (by omega)]
  cases m.getD (((k - 1 : Nat) : Int)).toNat false with
  | true =>
   obtain ⟨n', m', h1, h2, h3⟩ := like_pct hs hi d (k + 1) (m.set ((k : Nat) : Int).toNat true) n (by omega) (by omega) (by simpa using hm)
   exact ⟨n', m', h1, h2, by rw [ct, h3]⟩
  | false =>
   obtain ⟨n', m', h1, h2, h3⟩ := like_pct hs hi d (k + 1) m n (by omega) (by omega) hm
   exact ⟨n', m', h1, h2, by rw [cf, h3]⟩
theorem like_chr {p s : List Int} {i : Nat} {c : Int} (hs : s.length ≤ 4096) (hi : i < 1000000) : ∀ (k : Nat) (m : List Bool) (n : Nat), k ≤ s.length → m.length = s.length + 1 → ∃ n' m', n ≤ n' ∧ m'.length = s.length + 1 ∧ F110c14 (n + k + 1) p s i c k m = F110c4 n' p s ((i + 1 : Nat) : Int) m'
 | 0, m, n, hk, hm => ⟨n, m.set (Int.toNat 0) false, Nat.le_refl _, by simpa using hm, by rw [F110c14_eq, cdf (by omega), if_pos (by omega), w1 (by omega)]⟩
 | k + 1, m, n, hk, hm => by
  have e1 : IntKind.i64.wrap (((k + 1 : Nat) : Int) - 1) = ((k : Nat) : Int) := by rw [wrap64_id (by omega) (by omega)]; omega
  rw [show n + (k + 1) + 1 = (n + k + 1) + 1 from by omega, F110c14_eq, cdt (by omega), e1, gd (show k < m.length by omega), gd (show k < s.length by omega)]
  have go : ∀ b, ∃ n' m', n ≤ n' ∧ m'.length = s.length + 1 ∧ F110c14 (n + k + 1) p s i c k (m.set (((k + 1 : Nat) : Int)).toNat b) = F110c4 n' p s ((i + 1 : Nat) : Int) m' := fun b =>
   like_chr hs hi k (m.set (((k + 1 : Nat) : Int)).toNat b) n (by omega) (by simpa using hm)
  cases m.getD (((k : Nat) : Int)).toNat false with
  | true =>
   rw [ct]
   cases decide (c = 95) with
   | true => rw [ct, gd (show k + 1 < m.length by omega)]; exact go _
   | false => rw [cf, gd (show k + 1 < m.length by omega)]; exact go _
  | false => rw [cf, gd (show k + 1 < m.length by omega)]; exact go _
theorem like_some {p s : List Int} (hp : p.length ≤ 4096) (hs : s.length ≤ 4096) : ∃ b, F110.run [PK.v Ty.str, PK.v Ty.str] [RK.v Ty.bool] 40000000 (p, s, ()) = some ((b, ()), ()) := by
 rw [F110_run, w1 (by omega), if_pos (by omega), if_pos (by unfold lim; omega), if_pos (by rw [List.length_replicate]; omega), Int.toNat_natCast]
 obtain ⟨r, e, b, rfl⟩ := loop (fun n i m => F110c4 n p s i m) p.length 4200 0 (fun i m => m.length = s.length + 1) (fun r => ∃ b, r = ((b, ()), ()))
  (fun n m _ hm => ⟨_, by rw [F110c4_eq, cdf (by omega), if_pos (by omega)], _, rfl⟩)
  (fun n i m hi hm => by
   rw [show n + 4200 = (n + 4199) + 1 from rfl, F110c4_eq, cdt (by omega), gd hi]
   cases decide (p.getD ((i : Nat) : Int).toNat 0 = 37) with
   | true =>
    obtain ⟨n', m', h1, h2, h3⟩ := like_pct (p := p) (i := i) hs (by omega) (s.length) 1 m (n + 4199 - s.length - 1) (by omega) (by omega) hm
    rw [show n + 4199 - s.length - 1 + s.length + 1 = n + 4199 from by omega] at h3
    exact .inl ⟨n', m', by omega, by rw [ct]; exact h3, h2⟩
   | false =>
    obtain ⟨n', m', h1, h2, h3⟩ := like_chr (p := p) (i := i) (c := p.getD ((i : Nat) : Int).toNat 0) hs (by omega) s.length m (n + 4199 - s.length - 1) (Nat.le_refl _) hm
    rw [show n + 4199 - s.length - 1 + s.length + 1 = n + 4199 from by omega] at h3
    exact .inl ⟨n', m', by omega, by rw [cf]; exact h3, h2⟩) p.length 40000000 0 ((List.replicate (s.length + 1) false).set (Int.toNat 0) true) (by omega) (by omega) (by omega) (by simp)
 exact ⟨b, e⟩
noncomputable def likeR (p s : List Int) : Bool := match F110.run [PK.v Ty.str, PK.v Ty.str] [RK.v Ty.bool] 40000000 (p, s, ()) with
 | some r => r.1.1
 | none => false
theorem likeR_run {p s : List Int} (hp : p.length ≤ 4096) (hs : s.length ≤ 4096) : F110.run [PK.v Ty.str, PK.v Ty.str] [RK.v Ty.bool] 40000000 (p, s, ()) = some ((likeR p s, ()), ()) := by
 obtain ⟨b, h⟩ := like_some hp hs
 have : likeR p s = b := by unfold likeR; rw [h]
 rw [h, this]
end Go.Proofs.Tryz
