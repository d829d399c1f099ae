/- Law 40: equality of expressions, their depth, which are well typed. -/
import Derived.Test.YtgfklnmckakclaaGreatDoorL40EqA
import Derived.Test.YtgfklnmckakclaaGreatDoorL40Ex
set_option linter.unusedVariables false
set_option linter.unusedSimpArgs false
namespace Go.Proofs.Tryz
open Go.Eng

/-! ## Equal -/
theorem equals_self {g : G13} {l : List Ex} (h : ∀ a ∈ l, g (a, a, ()) = some ((true, ()), ())) (hl : l.length ≤ 1000000) :
    (F42 g).run [PK.v (Ty.nm 1).sl, PK.v (Ty.nm 1).sl] [RK.v Ty.bool] 4000000 (l, l, ()) = some ((true, ()), ()) := by
  rw [F42_run, decide_eq_true rfl, Bool.not_true, cond_false]
  obtain ⟨r, e, rfl⟩ := loop (fun n i (_ : Unit) => F42c4 g n l l i) l.length 2 0 (fun _ _ => True) (fun r => r = ((true, ()), ()))
    (fun n s _ _ => ⟨_, by rw [F42c4_eq, cdf (by omega)], rfl⟩)
    (fun n i s hi _ => .inl ⟨n, (), Nat.le_refl _, by
      rw [F42c4_eq, cdt (by omega), cdt (by omega), F42c6_eq, gd hi, gd hi, Int.toNat_natCast, h _ (getD_mem hi _), w1 (by omega)]
      rfl, trivial⟩) l.length 4000000 0 () (by omega) (by omega) (by omega) trivial
  exact e

theorem equal_step {g : G13} {e : Ex} (ha : ∀ a ∈ e.args, g (a, a, ()) = some ((true, ()), ())) (hp : ∀ a ∈ e.partitionBy, g (a, a, ()) = some ((true, ()), ()))
    (ho : ∀ a ∈ e.orderBy, g (a.expr, a.expr, ()) = some ((true, ()), ())) (hs : sz e ≤ 1000000) :
    (F13 g).run [PK.v (Ty.nm 1), PK.v (Ty.nm 1)] [RK.v Ty.bool] 4000000 (e, e, ()) = some ((true, ()), ()) := by
  have h1 := len_arg e
  have h2 := len_part e
  have h3 := len_ord e
  rw [F13_run]
  simp only [decide_true, Bool.not_true, cond_false, Bool.and_true]
  rw [show F13c3 g 4000000 e e = _ from F13c3_eq g 3999999 e e]
  obtain ⟨r, e1, rfl⟩ := loop (fun n i (_ : Unit) => F13c4 g n i e e) e.orderBy.length 3 0 (fun _ _ => True) (fun r => r = ((true, ()), ()))
    (fun n s _ _ => ⟨((true, ()), ()), by
      rw [F13c4_eq, cdf (by omega), F13c8_eq, equals_self ha (by omega)]
      simp only [Option.bind_some, cond_true]
      rw [equals_self hp (by omega)]
      rfl, rfl⟩)
    (fun n i s hi _ => .inl ⟨n + 1, (), by omega, by
      rw [F13c4_eq, cdt (by omega), cdt (by omega), F13c6_eq, gd hi, gd hi, gd hi, gd hi, Int.toNat_natCast, decide_eq_true rfl, Bool.not_true, cond_false, ho _ (getD_mem hi _), w1 (by omega)]
      rfl, trivial⟩) e.orderBy.length 3999999 0 () (by omega) (by omega) (by omega) trivial
  exact e1
theorem equal_self : ∀ (k : Nat) (e : Ex), sz e ≤ k → sz e ≤ 1000000 → r13 k (e, e, ()) = some ((true, ()), ())
  | 0, e, h, _ => by have := sz_pos e; omega
  | k + 1, e, h, hs => by
    rw [r13_succ]
    exact equal_step (fun a ha => equal_self k a (by have := sz_arg ha; omega) (by have := sz_arg ha; omega)) (fun a ha => equal_self k a (by have := sz_part ha; omega) (by have := sz_part ha; omega))
      (fun a ha => equal_self k a.expr (by have := sz_ord ha; omega) (by have := sz_ord ha; omega)) hs
theorem equal_run {e : Ex} (h : sz e ≤ 100000) : R13 (e, e, ()) = some ((true, ()), ()) := equal_self 100000 e h (by omega)
theorem same_run {l : List Ex} (hl : l.length ≤ 1000000) (h : ∀ a ∈ l, sz a ≤ 100000) : F19.run [PK.v (Ty.nm 1).sl, PK.v (Ty.nm 1).sl] [RK.v Ty.bool] 4000000 (l, l, ()) = some ((true, ()), ()) := by
  rw [F19_run, decide_eq_true rfl, Bool.not_true, cond_false]
  obtain ⟨r, e, rfl⟩ := loop (fun n i (_ : Unit) => F19c4 n l l i) l.length 1 0 (fun _ _ => True) (fun r => r = ((true, ()), ()))
    (fun n s _ _ => ⟨_, by rw [F19c4_eq, cdf (by omega)], rfl⟩)
    (fun n i s hi _ => .inl ⟨n, (), Nat.le_refl _, by
      rw [F19c4_eq, cdt (by omega), gd hi, gd hi, Int.toNat_natCast, equal_run (h _ (getD_mem hi _)), w1 (by omega)]
      rfl, trivial⟩) l.length 4000000 0 () (by omega) (by omega) (by omega) trivial
  exact e

/-! ## Depth -/
mutual
def dep : Ex → Nat
  | ⟨_, _, _, _, _, _, a, p, o, _, _⟩ => max (max (depL a) (depL p)) (depO o) + 1
def depL : List Ex → Nat
  | [] => 0
  | e :: l => max (dep e) (depL l)
def depO : List Ord1 → Nat
  | [] => 0
  | e :: l => max (depOne e) (depO l)
def depOne : Ord1 → Nat
  | ⟨e, _⟩ => dep e
end
theorem dep_eq (e : Ex) : dep e = max (max (depL e.args) (depL e.partitionBy)) (depO e.orderBy) + 1 := by
  cases e; rw [dep]
mutual
theorem dep_sz : ∀ e, dep e ≤ sz e
  | ⟨_, _, _, _, _, _, a, p, o, _, _⟩ => by
    rw [dep, sz]
    have := depL_sz a
    have := depL_sz p
    have := depO_sz o
    omega
theorem depL_sz : ∀ l, depL l ≤ szL l
  | [] => Nat.le_refl _
  | e :: l => by
    rw [depL, szL]
    have := dep_sz e
    have := depL_sz l
    omega
theorem depO_sz : ∀ l, depO l ≤ szO l
  | [] => Nat.le_refl _
  | ⟨e, _⟩ :: l => by
    rw [depO, szO, depOne, szOne]
    have := dep_sz e
    have := depO_sz l
    omega
end
theorem imax_nat (a b : Nat) : imax (a : Int) (b : Int) = ((max a b : Nat) : Int) := by
  unfold imax; first | (split <;> omega) | omega | (simp; omega)
theorem depL_take {l : List Ex} {i : Nat} (h : i < l.length) (d : Ex) : max (depL (l.take i)) (dep (l.getD i d)) = depL (l.take (i + 1)) := by
  induction l generalizing i with
  | nil => simp at h
  | cons a l ih =>
    cases i with
    | zero => simp [depL]
    | succ i =>
      have h' : i < l.length := by simpa using h
      have := ih h'
      simp only [List.take_succ_cons, depL, List.getD_cons_succ]
      omega
theorem depO_take {l : List Ord1} {i : Nat} (h : i < l.length) (d : Ord1) : max (depO (l.take i)) (dep (l.getD i d).expr) = depO (l.take (i + 1)) := by
  induction l generalizing i with
  | nil => simp at h
  | cons a l ih =>
    cases i with
    | zero => cases a; simp [depO, depOne]
    | succ i =>
      have h' : i < l.length := by simpa using h
      have := ih h'
      simp only [List.take_succ_cons, depO, List.getD_cons_succ]
      omega
theorem depth_step {g : G34} {e : Ex} (ha : ∀ a ∈ e.args, g (a, ()) = some ((((dep a : Nat) : Int), ()), ())) (hp : ∀ a ∈ e.partitionBy, g (a, ()) = some ((((dep a : Nat) : Int), ()), ()))
    (ho : ∀ a ∈ e.orderBy, g (a.expr, ()) = some ((((dep a.expr : Nat) : Int), ()), ())) (hs : sz e ≤ 1000000) :
    (F34 g).run [PK.v (Ty.nm 1)] [RK.v (Ty.int .i64)] 4000000 (e, ()) = some ((((dep e : Nat) : Int), ()), ()) := by
  have h1 := len_arg e
  have h2 := len_part e
  have h3 := len_ord e
  have h4 := dep_sz e
  have hd := dep_eq e
  rw [F34_run]
  have third : ∀ n, 1000001 ≤ n → F34c11 g n ((max (depL e.args) (depL e.partitionBy) : Nat) : Int) 0 e = some ((((dep e : Nat) : Int), ()), ()) := by
    intro n hn
    obtain ⟨r, e1, rfl⟩ := loop (fun n i (s : Nat) => F34c11 g n (s : Int) i e) e.orderBy.length 1 0 (fun i s => s = max (max (depL e.args) (depL e.partitionBy)) (depO (e.orderBy.take i))) (fun r => r = ((((dep e : Nat) : Int), ()), ()))
      (fun n s _ hs => ⟨_, by rw [F34c11_eq, cdf (by omega)], by
        rw [List.take_length] at hs
        rw [hs, w1 (by omega), ← hd]⟩)
      (fun n i s hi hs => .inl ⟨n, _, Nat.le_refl _, by
        rw [F34c11_eq, cdt (by omega), gd hi, Int.toNat_natCast, ho _ (getD_mem hi _), w1 (by omega), Option.bind_some, imax_nat], by
        have := depO_take hi zOrd1; omega⟩) e.orderBy.length n 0 (max (depL e.args) (depL e.partitionBy)) (by omega) (by omega) (by omega) (by simp [depO])
    exact e1
  have second : ∀ n, 2000002 ≤ n → F34c7 g n ((depL e.args : Nat) : Int) 0 e = some ((((dep e : Nat) : Int), ()), ()) := by
    intro n hn
    obtain ⟨r, e1, rfl⟩ := loop (fun n i (s : Nat) => F34c7 g n (s : Int) i e) e.partitionBy.length 1 1000001 (fun i s => s = max (depL e.args) (depL (e.partitionBy.take i))) (fun r => r = ((((dep e : Nat) : Int), ()), ()))
      (fun n s hn hs => ⟨_, by
        rw [List.take_length] at hs
        rw [F34c7_eq, cdf (by omega), hs, third n hn], rfl⟩)
      (fun n i s hi hs => .inl ⟨n, _, Nat.le_refl _, by
        rw [F34c7_eq, cdt (by omega), gd hi, Int.toNat_natCast, hp _ (getD_mem hi _), w1 (by omega), Option.bind_some, imax_nat], by
        have := depL_take hi zEx; omega⟩) e.partitionBy.length n 0 (depL e.args) (by omega) (by omega) (by omega) (by simp [depL])
    exact e1
  obtain ⟨r, e1, rfl⟩ := loop (fun n i (s : Nat) => F34c3 g n (s : Int) i e) e.args.length 1 2000002 (fun i s => s = depL (e.args.take i)) (fun r => r = ((((dep e : Nat) : Int), ()), ()))
    (fun n s hn hs => ⟨_, by
      rw [List.take_length] at hs
      rw [F34c3_eq, cdf (by omega), hs, second n hn], rfl⟩)
    (fun n i s hi hs => .inl ⟨n, _, Nat.le_refl _, by
      rw [F34c3_eq, cdt (by omega), gd hi, Int.toNat_natCast, ha _ (getD_mem hi _), w1 (by omega), Option.bind_some, imax_nat], by
      have := depL_take hi zEx; omega⟩) e.args.length 4000000 0 0 (by omega) (by omega) (by omega) (by simp [depL])
  exact e1
theorem depth_k : ∀ (k : Nat) (e : Ex), sz e ≤ k → sz e ≤ 1000000 → r34 k (e, ()) = some ((((dep e : Nat) : Int), ()), ())
  | 0, e, h, _ => by have := sz_pos e; omega
  | k + 1, e, h, hs => by
    rw [r34_succ]
    exact depth_step (fun a ha => depth_k k a (by have := sz_arg ha; omega) (by have := sz_arg ha; omega)) (fun a ha => depth_k k a (by have := sz_part ha; omega) (by have := sz_part ha; omega))
      (fun a ha => depth_k k a.expr (by have := sz_ord ha; omega) (by have := sz_ord ha; omega)) hs
theorem depth_run {e : Ex} (h : sz e ≤ 100000) : R34 (e, ()) = some ((((dep e : Nat) : Int), ()), ()) := depth_k 100000 e h (by omega)

/-! ## The number of nodes -/
mutual
def nod : Ex → Nat
  | ⟨_, _, _, _, _, _, a, _, _, _, _⟩ => nodL a + 1
def nodL : List Ex → Nat
  | [] => 0
  | e :: l => nod e + nodL l
end
theorem nod_eq (e : Ex) : nod e = nodL e.args + 1 := by cases e; rw [nod]
theorem nodL_take {l : List Ex} {i : Nat} (h : i < l.length) (d : Ex) : nodL (l.take i) + nod (l.getD i d) = nodL (l.take (i + 1)) := by
  induction l generalizing i with
  | nil => simp at h
  | cons a l ih =>
    cases i with
    | zero => simp [nodL]
    | succ i =>
      have h' : i < l.length := by simpa using h
      have := ih h'
      simp only [List.take_succ_cons, nodL, List.getD_cons_succ]
      omega
/-- What counting from n comes to: exact below 200. -/
def Cnt (n m x : Nat) : Prop := x ≤ max (n + 1) 200 ∧ (x < 200 → x = n + m)
theorem nodes_step {g : G38} {e : Ex} (ha : ∀ a ∈ e.args, ∀ n : Nat, n ≤ 1000 → ∃ x : Nat, g (a, (n : Int), ()) = some (((x : Int), ()), ()) ∧ Cnt n (nod a) x) (hs : sz e ≤ 1000000) (n : Nat) (hn : n ≤ 1000) :
    ∃ x : Nat, (F38 g).run [PK.v (Ty.nm 1), PK.v (Ty.int .i64)] [RK.v (Ty.int .i64)] 4000000 (e, (n : Int), ()) = some (((x : Int), ()), ()) ∧ Cnt n (nod e) x := by
  have h1 := len_arg e
  rw [F38_run, w1 (by omega)]
  obtain ⟨r, e1, x, rfl, hx⟩ := loop (fun n i (s : Nat) => F38c3 g n (s : Int) i e) e.args.length 2 0 (fun i s => s ≤ max (n + 1) 200 ∧ (s < 200 → s = n + (nodL (e.args.take i) + 1))) (fun r => ∃ x : Nat, r = (((x : Int), ()), ()) ∧ Cnt n (nod e) x)
    (fun k s _ hs => ⟨_, by rw [F38c3_eq, cdf (by omega)], s, rfl, by
      rw [List.take_length, ← nod_eq] at hs
      exact hs⟩)
    (fun k i s hi hs => by
      by_cases h2 : s < 200
      · obtain ⟨x, hx, hc⟩ := ha _ (getD_mem hi zEx) s (by omega)
        refine .inl ⟨k, x, Nat.le_refl _, ?_, ?_⟩
        · rw [F38c3_eq, cdt (by omega), cdt (by omega), F38c5_eq, gd hi, Int.toNat_natCast, hx, w1 (by omega)]
          rfl
        · have := nodL_take hi zEx
          obtain ⟨c1, c2⟩ := hc
          obtain ⟨c3, c4⟩ := hs
          refine ⟨by omega, fun h => ?_⟩
          have := c2 h
          have := c4 h2
          omega
      · refine .inr ⟨_, by rw [F38c3_eq, cdt (by omega), cdf (by omega)], s, rfl, hs.1, fun h => absurd h h2⟩) e.args.length 4000000 0 (n + 1) (by omega) (by omega) (by omega) ⟨by omega, fun _ => by simp [nodL]⟩
  exact ⟨x, e1, hx⟩
theorem nodes_k : ∀ (k : Nat) (e : Ex), sz e ≤ k → sz e ≤ 1000000 → ∀ n : Nat, n ≤ 1000 → ∃ x : Nat, r38 k (e, (n : Int), ()) = some (((x : Int), ()), ()) ∧ Cnt n (nod e) x
  | 0, e, h, _, _, _ => by have := sz_pos e; omega
  | k + 1, e, h, hs, n, hn => by
    rw [r38_succ]
    exact nodes_step (fun a ha => nodes_k k a (by have := sz_arg ha; omega) (by have := sz_arg ha; omega)) hs n hn
theorem nodes_run {e : Ex} (h : sz e ≤ 100000) : ∃ x : Nat, R38 (e, (0 : Int), ()) = some (((x : Int), ()), ()) ∧ (x < 200 → x = nod e) := by
  obtain ⟨x, h1, h2⟩ := nodes_k 100000 e h (by omega) 0 (by omega)
  exact ⟨x, h1, fun h => by have := h2.2 h; omega⟩
end Go.Proofs.Tryz
