/- Law 42: vectors that are built value by value (printed by genbuild.py). -/
import Derived.Test.YtlkllggdiakpbaaGreatDoorL42Test
set_option linter.unusedVariables false
set_option linter.unusedSimpArgs false
namespace Go.Proofs.Tryz
open Go.Eng
theorem range_fits {T : Int} {n : Nat} {R : Nat → Val} (hf : ∀ j, j < n → fitsV T (R j)) : ∀ v ∈ (List.range n).map R, fitsV T v := fun v hv => by
 obtain ⟨j, hj, rfl⟩ := List.mem_map.1 hv
 exact hf j (List.mem_range.1 hj)
theorem buildNeg_run {T : Int} {n : Nat} {R : Nat → Val} {a : Vec} (ht : isTyp T) (hn : n ≤ 1000) (hf : ∀ j, j < n → fitsV T (R j)) (hR : ∀ j, j < n → F55.run [PK.v (Ty.int .i64), PK.rp (Ty.nm 3)] [RK.v (Ty.nm 0)] 4000000 ((j : Int), Vec.mk a.f_Type a.ints a.texts a.nulls, ()) = some ((R j, ()), ())) :
  F56000054.run [PK.v (Ty.int .i64), PK.v (Ty.int .i64), PK.fn 55 [(3 : Nat)], PK.bc AGW] [RK.v (Ty.nm 3)] 4000000 (T, (n : Int), (), (a.f_Type, a.ints, a.texts, a.nulls, ()), ()) = some ((vecOf T ((List.range n).map R), ()), ((a.f_Type, a.ints, a.texts, a.nulls, ()), ())) := by
 rw [F56000054_run, if_pos (by omega), if_pos (by unfold lim; omega), List.length_replicate, Int.toNat_natCast]
 obtain ⟨r, e1, rfl⟩ := loop (fun k i (x : List Val) => F56000054c3 k T (n : Int) (n : Int) i 0 x [] [] [] a.f_Type a.ints a.texts a.nulls) n 1 0 (fun i x => x = upto zVal R n i) (fun r => r = ((vecOf T ((List.range n).map R), ()), ((a.f_Type, a.ints, a.texts, a.nulls, ()), ())))
  (fun k x _ hx => by
   subst hx
   refine ⟨_, ?_, rfl⟩
   rw [F56000054c3_eq, cdf (by omega), upto_full, bnd (fromValues_run ht (range_fits hf) (by simp only [List.length_map, List.length_range]; omega))]
   rfl)
  (fun k i x hi hx => by
   subst hx
   refine .inl ⟨k, _, Nat.le_refl _, ?_, rfl⟩
   rw [F56000054c3_eq, cdt (by omega), bnd (hR i hi), gd (by rw [upto_len]; exact hi), w1 (by omega), Int.toNat_natCast]
   simp only []
   rw [upto_set hi]) n 4000000 0 (List.replicate n zVal) (by omega) (by omega) (by omega) (upto_zero ..).symm
 exact e1
theorem buildAr_run {T : Int} {n : Nat} {R : Nat → Val} {op : Int} {a b : Vec} (ht : isTyp T) (hn : n ≤ 1000) (hf : ∀ j, j < n → fitsV T (R j)) (hR : ∀ j, j < n → F94.run [PK.v (Ty.int .i64), PK.rp (Ty.int .i64), PK.rp (Ty.nm 3), PK.rp (Ty.nm 3)] [RK.v (Ty.nm 0)] 4000000 ((j : Int), op, Vec.mk a.f_Type a.ints a.texts a.nulls, Vec.mk b.f_Type b.ints b.texts b.nulls, ()) = some ((R j, ()), ())) :
  F95000054.run [PK.v (Ty.int .i64), PK.v (Ty.int .i64), PK.fn 94 [(3 : Nat), (4 : Nat), (5 : Nat)], PK.bw (Ty.int .i64), PK.bc AGW, PK.bc AGW] [RK.v (Ty.nm 3)] 4000000 (T, (n : Int), (), op, (a.f_Type, a.ints, a.texts, a.nulls, ()), (b.f_Type, b.ints, b.texts, b.nulls, ()), ()) = some ((vecOf T ((List.range n).map R), ()), (op, (a.f_Type, a.ints, a.texts, a.nulls, ()), (b.f_Type, b.ints, b.texts, b.nulls, ()), ())) := by
 rw [F95000054_run, if_pos (by omega), if_pos (by unfold lim; omega), List.length_replicate, Int.toNat_natCast]
 obtain ⟨r, e1, rfl⟩ := loop (fun k i (x : List Val) => F95000054c3 k T (n : Int) (n : Int) i 0 x [] [] [] op a.f_Type a.ints a.texts a.nulls b.f_Type b.ints b.texts b.nulls) n 1 0 (fun i x => x = upto zVal R n i) (fun r => r = ((vecOf T ((List.range n).map R), ()), (op, (a.f_Type, a.ints, a.texts, a.nulls, ()), (b.f_Type, b.ints, b.texts, b.nulls, ()), ())))
  (fun k x _ hx => by
   subst hx
   refine ⟨_, ?_, rfl⟩
   rw [F95000054c3_eq, cdf (by omega), upto_full, bnd (fromValues_run ht (range_fits hf) (by simp only [List.length_map, List.length_range]; omega))]
   rfl)
  (fun k i x hi hx => by
   subst hx
   refine .inl ⟨k, _, Nat.le_refl _, ?_, rfl⟩
   rw [F95000054c3_eq, cdt (by omega), bnd (hR i hi), gd (by rw [upto_len]; exact hi), w1 (by omega), Int.toNat_natCast]
   simp only []
   rw [upto_set hi]) n 4000000 0 (List.replicate n zVal) (by omega) (by omega) (by omega) (upto_zero ..).symm
 exact e1
theorem buildCat_run {T : Int} {n : Nat} {R : Nat → Val} {a b : Vec} (ht : isTyp T) (hn : n ≤ 1000) (hf : ∀ j, j < n → fitsV T (R j)) (hR : ∀ j, j < n → F96.run [PK.v (Ty.int .i64), PK.rp (Ty.nm 3), PK.rp (Ty.nm 3)] [RK.v (Ty.nm 0)] 4000000 ((j : Int), Vec.mk a.f_Type a.ints a.texts a.nulls, Vec.mk b.f_Type b.ints b.texts b.nulls, ()) = some ((R j, ()), ())) :
  F97000054.run [PK.v (Ty.int .i64), PK.v (Ty.int .i64), PK.fn 96 [(3 : Nat), (4 : Nat)], PK.bc AGW, PK.bc AGW] [RK.v (Ty.nm 3)] 4000000 (T, (n : Int), (), (a.f_Type, a.ints, a.texts, a.nulls, ()), (b.f_Type, b.ints, b.texts, b.nulls, ()), ()) = some ((vecOf T ((List.range n).map R), ()), ((a.f_Type, a.ints, a.texts, a.nulls, ()), (b.f_Type, b.ints, b.texts, b.nulls, ()), ())) := by
 rw [F97000054_run, if_pos (by omega), if_pos (by unfold lim; omega), List.length_replicate, Int.toNat_natCast]
 obtain ⟨r, e1, rfl⟩ := loop (fun k i (x : List Val) => F97000054c3 k T (n : Int) (n : Int) i 0 x [] [] [] a.f_Type a.ints a.texts a.nulls b.f_Type b.ints b.texts b.nulls) n 1 0 (fun i x => x = upto zVal R n i) (fun r => r = ((vecOf T ((List.range n).map R), ()), ((a.f_Type, a.ints, a.texts, a.nulls, ()), (b.f_Type, b.ints, b.texts, b.nulls, ()), ())))
  (fun k x _ hx => by
   subst hx
   refine ⟨_, ?_, rfl⟩
   rw [F97000054c3_eq, cdf (by omega), upto_full, bnd (fromValues_run ht (range_fits hf) (by simp only [List.length_map, List.length_range]; omega))]
   rfl)
  (fun k i x hi hx => by
   subst hx
   refine .inl ⟨k, _, Nat.le_refl _, ?_, rfl⟩
   rw [F97000054c3_eq, cdt (by omega), bnd (hR i hi), gd (by rw [upto_len]; exact hi), w1 (by omega), Int.toNat_natCast]
   simp only []
   rw [upto_set hi]) n 4000000 0 (List.replicate n zVal) (by omega) (by omega) (by omega) (upto_zero ..).symm
 exact e1
theorem buildOut_run {T : Int} {n : Nat} {R : Nat → Val} {out : List Val} (ht : isTyp T) (hn : n ≤ 1000) (hf : ∀ j, j < n → fitsV T (R j)) (hR : ∀ j, j < n → F101.run [PK.v (Ty.int .i64), PK.rp (Ty.nm 0).sl] [RK.v (Ty.nm 0)] 4000000 ((j : Int), out, ()) = some ((R j, ()), ())) :
  F102000054.run [PK.v (Ty.int .i64), PK.v (Ty.int .i64), PK.fn 101 [(3 : Nat)], PK.bc [CK.c (Ty.nm 0).sl]] [RK.v (Ty.nm 3)] 4000000 (T, (n : Int), (), (out, ()), ()) = some ((vecOf T ((List.range n).map R), ()), ((out, ()), ())) := by
 rw [F102000054_run, if_pos (by omega), if_pos (by unfold lim; omega), List.length_replicate, Int.toNat_natCast]
 obtain ⟨r, e1, rfl⟩ := loop (fun k i (x : List Val) => F102000054c3 k T (n : Int) (n : Int) i 0 x [] [] [] out) n 1 0 (fun i x => x = upto zVal R n i) (fun r => r = ((vecOf T ((List.range n).map R), ()), ((out, ()), ())))
  (fun k x _ hx => by
   subst hx
   refine ⟨_, ?_, rfl⟩
   rw [F102000054c3_eq, cdf (by omega), upto_full, bnd (fromValues_run ht (range_fits hf) (by simp only [List.length_map, List.length_range]; omega))]
   rfl)
  (fun k i x hi hx => by
   subst hx
   refine .inl ⟨k, _, Nat.le_refl _, ?_, rfl⟩
   rw [F102000054c3_eq, cdt (by omega), bnd (hR i hi), gd (by rw [upto_len]; exact hi), w1 (by omega), Int.toNat_natCast]
   simp only []
   rw [upto_set hi]) n 4000000 0 (List.replicate n zVal) (by omega) (by omega) (by omega) (upto_zero ..).symm
 exact e1
theorem buildCall_run {T : Int} {n : Nat} {R : Nat → Val} {av : List Vec} {e : Ex} (ht : isTyp T) (hn : n ≤ 1000) (hf : ∀ j, j < n → fitsV T (R j)) (hR : ∀ j, j < n → F102.run [PK.v (Ty.int .i64), PK.rp (Ty.nm 3).sl, PK.rp (Ty.nm 1)] [RK.v (Ty.nm 0)] 4000000 ((j : Int), av, e, ()) = some ((R j, ()), ())) :
  F103000054.run [PK.v (Ty.int .i64), PK.v (Ty.int .i64), PK.fn 102 [(3 : Nat), (4 : Nat)], PK.bc [CK.c (Ty.nm 3).sl], PK.bw (Ty.nm 1)] [RK.v (Ty.nm 3)] 4000000 (T, (n : Int), (), (av, ()), e, ()) = some ((vecOf T ((List.range n).map R), ()), ((av, ()), e, ())) := by
 rw [F103000054_run, if_pos (by omega), if_pos (by unfold lim; omega), List.length_replicate, Int.toNat_natCast]
 obtain ⟨r, e1, rfl⟩ := loop (fun k i (x : List Val) => F103000054c3 k T (n : Int) (n : Int) i 0 x [] [] [] av e) n 1 0 (fun i x => x = upto zVal R n i) (fun r => r = ((vecOf T ((List.range n).map R), ()), ((av, ()), e, ())))
  (fun k x _ hx => by
   subst hx
   refine ⟨_, ?_, rfl⟩
   rw [F103000054c3_eq, cdf (by omega), upto_full, bnd (fromValues_run ht (range_fits hf) (by simp only [List.length_map, List.length_range]; omega))]
   rfl)
  (fun k i x hi hx => by
   subst hx
   refine .inl ⟨k, _, Nat.le_refl _, ?_, rfl⟩
   rw [F103000054c3_eq, cdt (by omega), bnd (hR i hi), gd (by rw [upto_len]; exact hi), w1 (by omega), Int.toNat_natCast]
   simp only []
   rw [upto_set hi]) n 4000000 0 (List.replicate n zVal) (by omega) (by omega) (by omega) (upto_zero ..).symm
 exact e1
end Go.Proofs.Tryz
