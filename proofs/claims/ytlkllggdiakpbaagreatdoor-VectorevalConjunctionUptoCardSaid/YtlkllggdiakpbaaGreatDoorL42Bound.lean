/- Law 42: equality of expressions, their depth, which are well typed. -/
import Derived.Test.YtlkllggdiakpbaaGreatDoorL42Eqs
import Derived.Test.YtlkllggdiakpbaaGreatDoorL42Ex
set_option linter.unusedVariables false
set_option linter.unusedSimpArgs false
namespace Go.Proofs.Tryz
open Go.Eng
/-! ## Equal -/
/-! ## Depth -/
mutual
def dep : Ex → Nat
 | ⟨_, _, _, _, _, _, a, p, o, _, _⟩ => max (max (depL a) (depL p)) (depO o) + 1
def depL : List Ex → Nat
 | [] => 0
 | e :: l => max (dep e) (depL l)
def depO : List Ord1 → Nat
 | [] => 0
 | e :: l => max (depOne e) (depO l)
def depOne : Ord1 → Nat
 | ⟨e, _⟩ => dep e
end
theorem dep_eq (e : Ex) : dep e = max (max (depL e.args) (depL e.partitionBy)) (depO e.orderBy) + 1 := by
 cases e; rw [dep]
mutual
theorem dep_sz : ∀ e, dep e ≤ sz e
 | ⟨_, _, _, _, _, _, a, p, o, _, _⟩ => by
  rw [dep, sz]
  have := depL_sz a
  have := depL_sz p
  have := depO_sz o
  omega
theorem depL_sz : ∀ l, depL l ≤ szL l
 | [] => Nat.le_refl _
 | e :: l => by
  rw [depL, szL]
  have := dep_sz e
  have := depL_sz l
  omega
theorem depO_sz : ∀ l, depO l ≤ szO l
 | [] => Nat.le_refl _
 | ⟨e, _⟩ :: l => by
  rw [depO, szO, depOne, szOne]
  have := dep_sz e
  have := depO_sz l
  omega
end
theorem imax_nat (a b : Nat) : imax (a : Int) (b : Int) = ((max a b : Nat) : Int) := by
 unfold imax; first | (split <;> omega) | omega | (simp; omega)
theorem depL_take {l : List Ex} {i : Nat} (h : i < l.length) (d : Ex) : max (depL (l.take i)) (dep (l.getD i d)) = depL (l.take (i + 1)) := by
 induction l generalizing i with
 | nil => simp at h
 | cons a l ih =>
  cases i with
  | zero => simp [depL]
  | succ i =>
   have h' : i < l.length := by simpa using h
   have := ih h'
   simp only [List.take_succ_cons, depL, List.getD_cons_succ]
   omega
theorem depO_take {l : List Ord1} {i : Nat} (h : i < l.length) (d : Ord1) : max (depO (l.take i)) (dep (l.getD i d).expr) = depO (l.take (i + 1)) := by
 induction l generalizing i with
 | nil => simp at h
 | cons a l ih =>
  cases i with
  | zero => cases a; simp [depO, depOne]
  | succ i =>
   have h' : i < l.length := by simpa using h
   have := ih h'
   simp only [List.take_succ_cons, depO, List.getD_cons_succ]
   omega
theorem depth_step {g : G83} {e : Ex} (ha : ∀ a ∈ e.args, g (a, ()) = some ((((dep a : Nat) : Int), ()), ())) (hp : ∀ a ∈ e.partitionBy, g (a, ()) = some ((((dep a : Nat) : Int), ()), ()))
  (ho : ∀ a ∈ e.orderBy, g (a.expr, ()) = some ((((dep a.expr : Nat) : Int), ()), ())) (hs : sz e ≤ 1000000) :
  (F83 g).run [PK.v (Ty.nm 1)] [RK.v (Ty.int .i64)] 4000000 (e, ()) = some ((((dep e : Nat) : Int), ()), ()) := by
 have h1 := len_arg e
 have h2 := len_part e
 have h3 := len_ord e
 have h4 := dep_sz e
 have hd := dep_eq e
 rw [F83_run]
 have third : ∀ n, 1000001 ≤ n → F83c11 g n ((max (depL e.args) (depL e.partitionBy) : Nat) : Int) 0 e = some ((((dep e : Nat) : Int), ()), ()) := by
  intro n hn
  obtain ⟨r, e1, rfl⟩ := loop (fun n i (s : Nat) => F83c11 g n (s : Int) i e) e.orderBy.length 1 0 (fun i s => s = max (max (depL e.args) (depL e.partitionBy)) (depO (e.orderBy.take i))) (fun r => r = ((((dep e : Nat) : Int), ()), ()))
   (fun n s _ hs => ⟨_, by rw [F83c11_eq, cdf (by omega)], by
    rw [List.take_length] at hs
    rw [hs, w1 (by omega), ← hd]⟩)
   (fun n i s hi hs => .inl ⟨n, _, Nat.le_refl _, by
    rw [F83c11_eq, cdt (by omega), gd hi, Int.toNat_natCast, ho _ (getD_mem hi _), w1 (by omega), Option.bind_some, imax_nat], by
    have := depO_take hi zOrd1; omega⟩) e.orderBy.length n 0 (max (depL e.args) (depL e.partitionBy)) (by omega) (by omega) (by omega) (by simp [depO])
  exact e1
 have second : ∀ n, 2000002 ≤ n → F83c7 g n ((depL e.args : Nat) : Int) 0 e = some ((((dep e : Nat) : Int), ()), ()) := by
  intro n hn
  obtain ⟨r, e1, rfl⟩ := loop (fun n i (s : Nat) => F83c7 g n (s : Int) i e) e.partitionBy.length 1 1000001 (fun i s => s = max (depL e.args) (depL (e.partitionBy.take i))) (fun r => r = ((((dep e : Nat) : Int), ()), ()))
   (fun n s hn hs => ⟨_, by
    rw [List.take_length] at hs
    rw [F83c7_eq, cdf (by omega), hs, third n hn], rfl⟩)
   (fun n i s hi hs => .inl ⟨n, _, Nat.le_refl _, by
    rw [F83c7_eq, cdt (by omega), gd hi, Int.toNat_natCast, hp _ (getD_mem hi _), w1 (by omega), Option.bind_some, imax_nat], by
    have := depL_take hi zEx; omega⟩) e.partitionBy.length n 0 (depL e.args) (by omega) (by omega) (by omega) (by simp [depL])
  exact e1
 obtain ⟨r, e1, rfl⟩ := loop (fun n i (s : Nat) => F83c3 g n (s : Int) i e) e.args.length 1 2000002 (fun i s => s = depL (e.args.take i)) (fun r => r = ((((dep e : Nat) : Int), ()), ()))
  (fun n s hn hs => ⟨_, by
   rw [List.take_length] at hs
   rw [F83c3_eq, cdf (by omega), hs, second n hn], rfl⟩)
  (fun n i s hi hs => .inl ⟨n, _, Nat.le_refl _, by
   rw [F83c3_eq, cdt (by omega), gd hi, Int.toNat_natCast, ha _ (getD_mem hi _), w1 (by omega), Option.bind_some, imax_nat], by
   have := depL_take hi zEx; omega⟩) e.args.length 4000000 0 0 (by omega) (by omega) (by omega) (by simp [depL])
 exact e1
theorem depth_k : ∀ (k : Nat) (e : Ex), sz e ≤ k → sz e ≤ 1000000 → r83 k (e, ()) = some ((((dep e : Nat) : Int), ()), ())
 | 0, e, h, _ => by have := sz_pos e; omega
 | k + 1, e, h, hs => by
  rw [r83_succ]
  exact depth_step (fun a ha => depth_k k a (by have := sz_arg ha; omega) (by have := sz_arg ha; omega)) (fun a ha => depth_k k a (by have := sz_part ha; omega) (by have := sz_part ha; omega))
   (fun a ha => depth_k k a.expr (by have := sz_ord ha; omega) (by have := sz_ord ha; omega)) hs
theorem depth_run {e : Ex} (h : sz e ≤ 100000) : R83 (e, ()) = some ((((dep e : Nat) : Int), ()), ()) := depth_k 100000 e h (by omega)
/-! ## The number of nodes -/
mutual
def nod : Ex → Nat
 | ⟨_, _, _, _, _, _, a, _, _, _, _⟩ => nodL a + 1
def nodL : List Ex → Nat
 | [] => 0
 | e :: l => nod e + nodL l
end
def Cnt (n m x : Nat) : Prop := x ≤ max (n + 1) 200 ∧ (x < 200 → x = n + m)
end Go.Proofs.Tryz
