/- Law 42: what a law's guard lets in. -/
import Derived.Test.YtlkllggdiakpbaaGreatDoorL42Ref
import Derived.Test.YtlkllggdiakpbaaGreatDoorL42Lives
set_option linter.unusedVariables false
set_option linter.unusedSimpArgs false
namespace Go.Proofs.Tryz
open Go.Eng
/-! ## The size -/
theorem szL_take {l : List Ex} {i : Nat} (h : i < l.length) (d : Ex) : szL (l.take i) + sz (l.getD i d) = szL (l.take (i + 1)) := by
 rw [szL_sum, szL_sum, List.take_succ_eq_append_getElem h, getD_eq h]
 have : ∀ (a b : List Ex), sumL sz (a ++ b) = sumL sz a + sumL sz b := by
  intro a b
  induction a with
  | nil => simp [sumL]
  | cons x a ih => simp only [List.cons_append, sumL, ih]; omega
 rw [this]
 simp [sumL]
theorem szO_take {l : List Ord1} {i : Nat} (h : i < l.length) (d : Ord1) : szO (l.take i) + sz (l.getD i d).expr = szO (l.take (i + 1)) := by
 rw [szO_sum, szO_sum, List.take_succ_eq_append_getElem h, getD_eq h]
 have : ∀ (a b : List Ord1), sumL szOne (a ++ b) = sumL szOne a + sumL szOne b := by
  intro a b
  induction a with
  | nil => simp [sumL]
  | cons x a ih => simp only [List.cons_append, sumL, ih]; omega
 rw [this]
 have h6 : ∀ a : Ord1, szOne a = sz a.expr := fun a => by cases a; rfl
 simp [sumL, h6]
theorem size_step {g : G26} {e : Ex} (ha : ∀ a ∈ e.args, g (a, ()) = some ((((sz a : Nat) : Int), ()), ())) (hp : ∀ a ∈ e.partitionBy, g (a, ()) = some ((((sz a : Nat) : Int), ()), ())) (hr : ∀ a ∈ e.orderBy, g (a.expr, ()) = some ((((sz a.expr : Nat) : Int), ()), ())) (hs : sz e ≤ 1000000) :
  (F26 g).run [PK.v (Ty.nm 1)] [RK.v (Ty.int .i64)] 4000000 (e, ()) = some ((((sz e : Nat) : Int), ()), ()) := by
 have l1 := len_arg e
 have l2 := len_part e
 have l3 := len_ord e
 have hz := sz_eq e
 have wr : ∀ a b : Nat, a + b ≤ 1000000 → IntKind.i64.wrap ((a : Int) + (b : Int)) = ((a + b : Nat) : Int) := fun a b h => by rw [wrap64_id (by omega) (by omega)]; omega
 have k3 : ∀ n, e.orderBy.length + 2 ≤ n → F26c11 g n ((1 + szL e.args + szL e.partitionBy : Nat) : Int) 0 e = some ((((sz e : Nat) : Int), ()), ()) := fun n hn => by
  obtain ⟨r, e1, rfl⟩ := loop (fun n i (x : Nat) => F26c11 g n (x : Int) i e) e.orderBy.length 1 0 (fun i x => x = 1 + szL e.args + szL e.partitionBy + szO (e.orderBy.take i)) (fun r => r = ((((sz e : Nat) : Int), ()), ()))
   (fun n x _ hx => by
    rw [List.take_length] at hx
    exact ⟨_, by rw [F26c11_eq, cdf (by omega)], by rw [hx, show 1 + szL e.args + szL e.partitionBy + szO e.orderBy = sz e by omega]⟩)
   (fun n i x hi hx => by
    have hm := getD_mem hi zOrd1
    have ht := szO_take hi zOrd1
    have hle : szO (e.orderBy.take (i + 1)) ≤ szO e.orderBy := by
     rw [szO_sum, szO_sum]
     conv => rhs; rw [← List.take_append_drop (i + 1) e.orderBy]
     have : ∀ (a b : List Ord1), sumL szOne (a ++ b) = sumL szOne a + sumL szOne b := by
      intro a b
      induction a with
      | nil => simp [sumL]
      | cons x a ih => simp only [List.cons_append, sumL, ih]; omega
     rw [this]; omega
    refine .inl ⟨n, x + sz (e.orderBy.getD i zOrd1).expr, Nat.le_refl _, ?_, by rw [hx, ← ht]; omega⟩
    rw [F26c11_eq, cdt (by omega), gd hi, Int.toNat_natCast, bnd (hr _ hm), w1 (by omega), wr _ _ (by omega)]) e.orderBy.length n 0 (1 + szL e.args + szL e.partitionBy) (by omega) (by omega) (by omega) (by simp [szO])
  exact e1
 have k2 : ∀ n, e.partitionBy.length + e.orderBy.length + 4 ≤ n → F26c7 g n ((1 + szL e.args : Nat) : Int) 0 e = some ((((sz e : Nat) : Int), ()), ()) := fun n hn => by
  obtain ⟨r, e1, rfl⟩ := loop (fun n i (x : Nat) => F26c7 g n (x : Int) i e) e.partitionBy.length 1 (e.orderBy.length + 2) (fun i x => x = 1 + szL e.args + szL (e.partitionBy.take i)) (fun r => r = ((((sz e : Nat) : Int), ()), ()))
   (fun n x hn hx => by
    rw [List.take_length] at hx
    exact ⟨_, by rw [F26c7_eq, cdf (by omega), hx, k3 n hn], rfl⟩)
   (fun n i x hi hx => by
    have hm := getD_mem hi zEx
    have ht := szL_take hi zEx
    have hle : szL (e.partitionBy.take (i + 1)) ≤ szL e.partitionBy := by
     rw [szL_sum, szL_sum]
     conv => rhs; rw [← List.take_append_drop (i + 1) e.partitionBy]
     have : ∀ (a b : List Ex), sumL sz (a ++ b) = sumL sz a + sumL sz b := by
      intro a b
      induction a with
      | nil => simp [sumL]
      | cons x a ih => simp only [List.cons_append, sumL, ih]; omega
     rw [this]; omega
    refine .inl ⟨n, x + sz (e.partitionBy.getD i zEx), Nat.le_refl _, ?_, by rw [hx, ← ht]; omega⟩
    rw [F26c7_eq, cdt (by omega), gd hi, Int.toNat_natCast, bnd (hp _ hm), w1 (by omega), wr _ _ (by omega)]) e.partitionBy.length n 0 (1 + szL e.args) (by omega) (by omega) (by omega) (by simp [szL])
  exact e1
 rw [F26_run]
 obtain ⟨r, e1, rfl⟩ := loop (fun n i (x : Nat) => F26c3 g n (x : Int) i e) e.args.length 1 (e.partitionBy.length + e.orderBy.length + 4) (fun i x => x = 1 + szL (e.args.take i)) (fun r => r = ((((sz e : Nat) : Int), ()), ()))
  (fun n x hn hx => by
   rw [List.take_length] at hx
   exact ⟨_, by rw [F26c3_eq, cdf (by omega), hx, k2 n hn], rfl⟩)
  (fun n i x hi hx => by
   have hm := getD_mem hi zEx
   have ht := szL_take hi zEx
   have hle : szL (e.args.take (i + 1)) ≤ szL e.args := by
    rw [szL_sum, szL_sum]
    conv => rhs; rw [← List.take_append_drop (i + 1) e.args]
    have : ∀ (a b : List Ex), sumL sz (a ++ b) = sumL sz a + sumL sz b := by
     intro a b
     induction a with
     | nil => simp [sumL]
     | cons x a ih => simp only [List.cons_append, sumL, ih]; omega
    rw [this]; omega
   refine .inl ⟨n, x + sz (e.args.getD i zEx), Nat.le_refl _, ?_, by rw [hx, ← ht]; omega⟩
   rw [F26c3_eq, cdt (by omega), gd hi, Int.toNat_natCast, bnd (ha _ hm), w1 (by omega), wr _ _ (by omega)]) e.args.length 4000000 0 1 (by omega) (by omega) (by omega) (by simp [szL])
 exact e1
theorem size_k : ∀ (k : Nat) (e : Ex), sz e ≤ k → sz e ≤ 1000000 → r26 k (e, ()) = some ((((sz e : Nat) : Int), ()), ())
 | 0, e, h, _ => by have := sz_pos e; omega
 | k + 1, e, h, hs => by
  rw [r26_succ]
  exact size_step (fun a ha => size_k k a (by have := sz_arg ha; omega) (by have := sz_arg ha; omega)) (fun a ha => size_k k a (by have := sz_part ha; omega) (by have := sz_part ha; omega)) (fun a ha => size_k k a.expr (by have := sz_ord ha; omega) (by have := sz_ord ha; omega)) hs
theorem types_run {C : Tabl} {b : Batch} (hb : b.columns = cols C) (hC : C.length ≤ 1000) : F28.run [PK.v (Ty.nm 2)] [RK.own 3 (Ty.int .i64)] 4000000 (b, ()) = some ((tys42 C, ()), ()) := by
 have hl : b.columns.length = C.length := by rw [hb]; exact List.length_map ..
 rw [F28_run, show ∀ a, F28c1 4000000 a = _ from fun a => F28c1_eq 3999999 a]
 obtain ⟨r, e1, rfl⟩ := loop (fun n i (x : List Int) => F28c3 n i b x) C.length 1 0 (fun i x => x = (tys42 C).take i) (fun r => r = ((tys42 C, ()), ()))
  (fun n x _ hx => by
   rw [List.take_of_length_le (by simp [tys42])] at hx
   subst hx
   exact ⟨_, by rw [F28c3_eq, cdf (by omega)], rfl⟩)
  (fun n i x hi hx => by
   have hlt : i < (tys42 C).length := by simpa [tys42] using hi
   have hxl : x.length = i := by rw [hx, List.length_take]; omega
   refine .inl ⟨n, x ++ [(tys42 C).getD i 0], Nat.le_refl _, ?_, by rw [List.take_succ_eq_append_getElem hlt, hx, getD_eq hlt]⟩
   rw [F28c3_eq, cdt (by omega), gd (by omega), if_pos (by unfold lim; omega), Int.toNat_natCast, hb, show (cols C).getD i zVec = vecOf (C.getD i (0, [])).1 (C.getD i (0, [])).2 from map_getD (e := (0, [])) hi, vec_type, w1 (by omega), ty_get hi]) C.length 3999999 0 [] (by omega) (by omega) (by omega) (by simp)
 exact e1
theorem guard_run {C : Tabl} {b : Batch} {e : Ex} (hb : b.columns = cols C) (hC : C.length ≤ 1000) (hz : sz e ≤ 100000) : ∃ c, F9.run [PK.v (Ty.nm 1), PK.v (Ty.nm 2)] [RK.v Ty.bool] 4000000 (e, b, ()) = some ((c, ()), ()) ∧ (c = true → WT (tys42 C) e) := by
 obtain ⟨c, h1, h2⟩ := bound_run (ts := tys42 C) hz
 rw [F9_run, show R26 = r26 100000 from rfl, bnd (size_k 100000 e hz (by omega))]
 dsimp only
 by_cases h200 : ((sz e : Nat) : Int) ≤ 200
 ·rw [cdt h200, bnd (types_run hb hC)]
  dsimp only
  rw [F27_run, bnd h1]
  exact ⟨c, rfl, fun hc => (h2.1 hc).2⟩
 ·rw [cdf h200]
  exact ⟨false, rfl, fun h => by cases h⟩
end Go.Proofs.Tryz
