/- Law 42: the program's functions agree with the reference's. -/
import Derived.Test.YtlkllggdiakpbaaGreatDoorL42PMul
import Derived.Test.YtlkllggdiakpbaaGreatDoorL42Eqs
set_option linter.unusedVariables false
set_option linter.unusedSimpArgs false
namespace Go.Proofs.Tryz
open Go.Eng
/-! ## Letters -/
def stepB (lo hi d x : Int) : Int := bif decide (lo ≤ x) && decide (x ≤ hi) then IntKind.u8.wrap (IntKind.i64.wrap (IntKind.i64.wrap x + d)) else x
theorem set_map {f : Int → Int} {s : List Int} {i : Nat} (h : i < s.length) : ((s.take i).map f ++ s.drop i).set i (f (s.getD i 0)) = (s.take (i + 1)).map f ++ s.drop (i + 1) := by
 rw [List.set_append_right _ _ (by rw [List.length_map, List.length_take]; omega), List.length_map, List.length_take, show i - min i s.length = 0 by omega, drop_cons h, List.set_cons_zero, List.take_succ_eq_append_getElem h, List.map_append, List.append_assoc, getD_eq h]; rfl
theorem get_map {f : Int → Int} {s : List Int} {i : Nat} (h : i < s.length) : ((s.take i).map f ++ s.drop i).getD i 0 = s.getD i 0 := by
 rw [List.getD_eq_getElem?_getD, List.getElem?_append_right (by rw [List.length_map, List.length_take]; omega), List.length_map, List.length_take, show i - min i s.length = 0 by omega, drop_cons h]; rfl
theorem len_map {f : Int → Int} {s : List Int} {i : Nat} (h : i ≤ s.length) : ((s.take i).map f ++ s.drop i).length = s.length := by
 rw [List.length_append, List.length_map, List.length_take, List.length_drop]; omega
theorem same_map {f : Int → Int} {s : List Int} {i : Nat} (h : i < s.length) (he : f (s.getD i 0) = s.getD i 0) : (s.take i).map f ++ s.drop i = (s.take (i + 1)).map f ++ s.drop (i + 1) := by
 rw [List.take_succ_eq_append_getElem h, List.map_append, List.append_assoc, drop_cons h, ← getD_eq h (d := 0)]
 show _ = _ ++ (f (s.getD i 0) :: List.drop (i + 1) s)
 rw [he]
theorem ref_map {s : List Int} {lo hi d : Int} (hs : s.length ≤ 4096) (hu : IntKind.u8.wrap (lo + 26) = hi + 1) : F140.run [PK.v Ty.str, PK.v (Ty.int .u8), PK.v (Ty.int .i64)] [RK.v Ty.str] 4000000 (s, lo, d, ()) = some (((s.map (stepB lo hi d)).map Eng.byteOf, ()), ()) := by
 rw [F140_run, if_pos (by unfold lim; omega)]
 obtain ⟨r, e, rfl⟩ := loop (fun n i x => F140c3 n lo d i x) s.length 2 0 (fun i x => x = (s.take i).map (stepB lo hi d) ++ s.drop i) (fun r => r = (((s.map (stepB lo hi d)).map Eng.byteOf, ()), ()))
  (fun n x _ hx => ⟨_, by rw [F140c3_eq, cdf (by rw [hx, len_map (Nat.le_refl _)]; omega)], by rw [hx, List.take_length, List.drop_length, List.append_nil]⟩)
  (fun n i x hi1 hx => by
   have hl : x.length = s.length := by rw [hx, len_map (by omega)]
   have hi' : i < x.length := by omega
   have hg : x.getD i 0 = s.getD i 0 := by rw [hx, get_map hi1]
   refine .inl ⟨n, _, Nat.le_refl _, ?_, rfl⟩
   rw [F140c3_eq, cdt (by omega), gd hi', gd hi', gd hi', gd hi', Int.toNat_natCast, hg, hu]
   by_cases h1 : lo ≤ s.getD i 0
   ·by_cases h2 : s.getD i 0 < hi + 1
    ·rw [cdt h1, cdt h2, F140c4_eq, w1 (by omega), hx, ← set_map hi1]
     unfold stepB
     rw [decide_eq_true h1, decide_eq_true (show s.getD i 0 ≤ hi by omega)]; rfl
    ·rw [cdt h1, cdf h2, F140c4_eq, w1 (by omega), hx, same_map hi1 (by unfold stepB; rw [decide_eq_true h1, decide_eq_false (show ¬ s.getD i 0 ≤ hi by omega)]; rfl)]
   ·rw [cdf h1, F140c4_eq, w1 (by omega), hx, same_map hi1 (by unfold stepB; rw [decide_eq_false h1]; rfl)]) s.length 4000000 0 s (by omega) (by omega) (by omega) rfl
 exact e
theorem pmap_run {s : List Int} {lo hi d : Int} (hs : s.length ≤ 4096) (hu : IntKind.u8.wrap (lo + 26) = hi + 1) : F160.run [PK.v Ty.str, PK.v (Ty.int .u8), PK.v (Ty.int .u8), PK.v (Ty.int .i64)] [RK.v Ty.str] 4000000 (s, lo, hi, d, ()) = some ((mappedR s lo d, ()), ()) := by
 have hm : mappedR s lo d = (s.map (stepB lo hi d)).map Eng.byteOf := by
  unfold mappedR; rw [ref_map hs hu]
 rw [hm, F160_run, if_pos (by unfold lim; omega)]
 obtain ⟨r, e, rfl⟩ := loop (fun n i x => F160c3 n lo hi d (s.length : Nat) i x) s.length 2 0 (fun i x => x = (s.take i).map (stepB lo hi d) ++ s.drop i) (fun r => r = (((s.map (stepB lo hi d)).map Eng.byteOf, ()), ()))
  (fun n x _ hx => ⟨_, by rw [F160c3_eq, cdf (by omega)], by rw [hx, List.take_length, List.drop_length, List.append_nil]⟩)
  (fun n i x hi1 hx => by
   have hl : x.length = s.length := by rw [hx, len_map (by omega)]
   have hi' : i < x.length := by omega
   have hg : x.getD i 0 = s.getD i 0 := by rw [hx, get_map hi1]
   refine .inl ⟨n, _, Nat.le_refl _, ?_, rfl⟩
   rw [F160c3_eq, cdt (by omega), gd hi', gd hi', Int.toNat_natCast, hg]
   by_cases h1 : lo ≤ s.getD i 0
   ·by_cases h2 : s.getD i 0 ≤ hi
    ·rw [cdt h1, cdt h2, F160c7_eq, w1 (by omega), hx, ← set_map hi1]
     unfold stepB
     rw [decide_eq_true h1, decide_eq_true h2]; rfl
    ·rw [cdt h1, cdf h2, F160c7_eq, w1 (by omega), hx, same_map hi1 (by unfold stepB; rw [decide_eq_true h1, decide_eq_false h2]; rfl)]
   ·rw [cdf h1, F160c7_eq, w1 (by omega), hx, same_map hi1 (by unfold stepB; rw [decide_eq_false h1]; rfl)]) s.length 4000000 0 s (by omega) (by omega) (by omega) rfl
 exact e
theorem map_bytes {s : List Int} {lo hi d : Int} (hs : s.length ≤ 4096) (hu : IntKind.u8.wrap (lo + 26) = hi + 1) : ∀ b ∈ mappedR s lo d, 0 ≤ b ∧ b < 256 := by
 intro b hb
 have hm : mappedR s lo d = (s.map (stepB lo hi d)).map Eng.byteOf := by
  unfold mappedR; rw [ref_map hs hu]
 rw [hm] at hb
 obtain ⟨x, _, rfl⟩ := List.mem_map.1 hb
 unfold Eng.byteOf
 omega
/-! ## Parts of a string -/
theorem part_take {s : List Int} {a n : Int} {lo hi : Nat} (hh : hi ≤ s.length) (hb : ∀ i, i < s.length → partB a n i = (decide (lo ≤ i) && decide (i < hi))) : ∀ (d : Nat) (out : List Int), d ≤ s.length → partR s a n d out = out ++ (s.take hi).drop (max lo (s.length - d))
 | 0, out, h => by
  rw [partR, List.drop_eq_nil_of_le (by rw [List.length_take]; omega), List.append_nil]
 | d + 1, out, h => by
  have hi1 : s.length - (d + 1) < s.length := by omega
  rw [partR, part_take hh hb d _ (by omega), hb _ hi1]
  by_cases h1 : lo ≤ s.length - (d + 1)
  ·by_cases h2 : s.length - (d + 1) < hi
   ·rw [decide_eq_true h1, decide_eq_true h2, Bool.and_true, ct, show max lo (s.length - d) = s.length - (d + 1) + 1 by omega, show max lo (s.length - (d + 1)) = s.length - (d + 1) by omega,
     drop_cons (l := s.take hi) (i := s.length - (d + 1)) (by rw [List.length_take]; omega), drop_cons hi1, List.append_assoc]
    have : (s.take hi).getD (s.length - (d + 1)) 0 = s.getD (s.length - (d + 1)) 0 := by
     rw [List.getD_eq_getElem?_getD, List.getD_eq_getElem?_getD, List.getElem?_take_of_lt h2]
    rw [this]; rfl
   ·rw [decide_eq_false h2, Bool.and_false, cf, List.drop_eq_nil_of_le (by rw [List.length_take]; omega), List.drop_eq_nil_of_le (by rw [List.length_take]; omega)]
  ·rw [decide_eq_false h1, Bool.false_and, cf, show max lo (s.length - d) = max lo (s.length - (d + 1)) by omega]
theorem partB_iff {a n : Int} (ha : inR a) (hn : inR n) (i : Nat) (hi : i < 1000000) : partB a n i = true ↔ 1 ≤ n ∧ a ≤ (i : Int) + 1 ∧ (i : Int) + 1 < a + n := by
 unfold inR at ha hn
 unfold partB
 by_cases h1 : a ≤ ((i + 1 : Nat) : Int)
 ·by_cases h2 : 1 ≤ n
  ·rw [decide_eq_true h1, decide_eq_true h2, Bool.true_and, Bool.true_and]
   by_cases h3 : 0 < a
   ·rw [decide_eq_true h3, decide_eq_false (show ¬ a ≤ 0 by omega), wrap64_id (by omega) (by omega)]
    simp only [Bool.true_and, Bool.false_and, Bool.or_false, decide_eq_true_eq]
    omega
   ·rw [decide_eq_false h3, decide_eq_true (show a ≤ 0 by omega)]
    by_cases h4 : -9223372036854775808 < a
    ·rw [decide_eq_true h4]
     by_cases h5 : ((i + 1 : Nat) : Int) < n
     ·rw [decide_eq_true h5, wrap64_id (z := 0 - a) (by omega) (by omega), wrap64_id (z := n - ((i + 1 : Nat) : Int)) (by omega) (by omega)]
      simp only [Bool.true_and, Bool.false_and, Bool.false_or, decide_eq_true_eq]
      omega
     ·rw [decide_eq_false h5]
      simp only [Bool.true_and, Bool.false_and, Bool.false_or]
      refine ⟨fun h => (by cases h), fun h => by omega⟩
    ·rw [decide_eq_false h4]
     simp only [Bool.true_and, Bool.false_and, Bool.false_or]
     refine ⟨fun h => (by cases h), fun h => by omega⟩
  ·rw [decide_eq_false h2, Bool.false_and, Bool.and_false]
   refine ⟨fun h => (by cases h), fun h => by omega⟩
 ·rw [decide_eq_false h1, Bool.false_and]
  refine ⟨fun h => (by cases h), fun h => by omega⟩
theorem ppart_run {s : List Int} {a n : Int} (hs : s.length ≤ 4096) (ha : inR a) (hn : inR n) : F161.run [PK.v Ty.str, PK.v (Ty.int .i64), PK.v (Ty.int .i64)] [RK.v Ty.str] 4000000 (s, a, n, ()) = some ((partR s a n s.length [], ()), ()) := by
 have hB := fun i hi => partB_iff ha hn i hi
 unfold inR at ha hn
 have e0 : ∀ (lo hi : Nat), hi ≤ s.length → (∀ i : Nat, i < s.length → ((1 ≤ n ∧ a ≤ (i : Int) + 1 ∧ (i : Int) + 1 < a + n) ↔ lo ≤ i ∧ i < hi)) → partR s a n s.length [] = (s.take hi).drop lo := fun lo hi h1 h2 => by
  rw [part_take h1 (fun i hi' => by
   rw [Bool.eq_iff_iff, hB i (by omega), h2 i hi', Bool.and_eq_true, decide_eq_true_eq, decide_eq_true_eq]) s.length [] (Nat.le_refl _), List.nil_append, Nat.sub_self, Nat.max_zero]
 have nil0 : (s.take 0).drop 0 = [] := by simp
 have c6 : ∀ z : Int, inR z → (∀ i : Nat, i < s.length → ((i : Int) + 1 < a + n ↔ (i : Int) + 1 < z)) → 1 ≤ n → F161c6 4000000 s a z = some ((partR s a n s.length [], ()), ()) := by
  intro z hz hzi hn1
  unfold inR at hz
  rw [show F161c6 4000000 s a z = _ from F161c6_eq 3999999 s a z, wrap64_id (z := (s.length : Int) + 1) (by omega) (by omega)]
  have m1 : imin z ((s.length : Int) + 1) = min z ((s.length : Int) + 1) := by unfold imin; split <;> omega
  have m2 : imax a 1 = max a 1 := by unfold imax; split <;> omega
  rw [m1, m2]
  by_cases he : min z ((s.length : Int) + 1) ≤ max a 1
  ·rw [cdt he, e0 0 0 (by omega) (fun i hi => by have := hzi i hi; omega), nil0]
  ·rw [cdf he, wrap64_id (z := max a 1 - 1) (by omega) (by omega), wrap64_id (z := min z ((s.length : Int) + 1) - 1) (by omega) (by omega), if_pos (by omega), if_pos (by omega), if_pos (by omega),
    e0 (max a 1 - 1).toNat (min z ((s.length : Int) + 1) - 1).toNat (by omega) (fun i hi => by have := hzi i hi; omega)]
 rw [show F161.run [PK.v Ty.str, PK.v (Ty.int .i64), PK.v (Ty.int .i64)] [RK.v Ty.str] 4000000 (s, a, n, ()) = _ from F161_run _ _ _ _]
 by_cases h1 : n < 1
 ·rw [cdt h1, e0 0 0 (by omega) (fun i hi => by omega), nil0]
 ·rw [cdf h1, wrap64_id (z := 9223372036854775807 - n) (by omega) (by omega)]
  by_cases h2 : a ≤ 9223372036854775807 - n
  ·rw [cdt h2, wrap64_id (z := a + n) (by omega) (by omega)]
   exact c6 _ ⟨by omega, by omega⟩ (fun i hi => Iff.rfl) (by omega)
  ·rw [cdf h2]
   exact c6 _ ⟨by omega, by omega⟩ (fun i hi => by omega) (by omega)
theorem part_bytes {s : List Int} {a n : Int} (hb : ∀ b ∈ s, 0 ≤ b ∧ b < 256) : ∀ (d : Nat) (out : List Int), (∀ b ∈ out, 0 ≤ b ∧ b < 256) → ∀ b ∈ partR s a n d out, 0 ≤ b ∧ b < 256
 | 0, out, h => h
 | d + 1, out, h => by
  rw [partR]
  refine part_bytes hb d _ ?_
  cases partB a n (s.length - (d + 1)) with
  | false => exact h
  | true =>
   intro b h2
   rcases List.mem_append.1 h2 with h2 | h2
   ·exact h b h2
   ·exact hb b (List.mem_of_mem_drop (List.mem_of_mem_take h2))
/-! ## The greatest and the least -/
theorem sgn_val (a b : Bool) : sgn a b = -1 ∨ sgn a b = 0 ∨ sgn a b = 1 := by unfold sgn; cases a <;> cases b <;> decide
theorem vcmp_val (a b : Val) : vcmp a b = -1 ∨ vcmp a b = 0 ∨ vcmp a b = 1 := by
 unfold vcmp
 cases decide (a.kind = b.kind) <;> cases decide (a.kind = 3) <;> exact sgn_val _ _
theorem pext_run {l : List Val} {g : Bool} (hl : l.length ≤ 1000000) (hv : ∀ v ∈ l, valid v = true) : F133.run [PK.v (Ty.nm 0).sl, PK.v (Ty.int .i64)] [RK.v (Ty.nm 0)] 4000000 (l, (bif g then 1 else -1), ()) = some ((extL g zVal l, ()), ()) := by
 rw [F133_run]
 obtain ⟨r, e, rfl⟩ := loop (fun k i x => F133c3 k (bif g then 1 else -1) l (l.length : Nat) i zVal x) l.length 2 0 (fun i x => valid x = true ∧ extL g x (l.drop i) = extL g zVal l) (fun r => r = ((extL g zVal l, ()), ()))
  (fun k x _ hx => ⟨((x, ()), ()), by rw [F133c3_eq, cdf (by omega)], by rw [← hx.2, List.drop_length]; rfl⟩)
  (fun k i x hi hx => by
   have hvi := hv _ (getD_mem hi zVal)
   have hc := vcmp_val (l.getD i zVal) x
   rw [drop_consV hi, extL] at hx
   refine .inl ⟨k, bif extB g (l.getD i zVal) x then l.getD i zVal else x, Nat.le_refl _, ?_, ?_, hx.2⟩
   ·rw [F133c3_eq, cdt (by omega), gd hi, Int.toNat_natCast, bnd (pcmp_run hvi hx.1)]
    simp only [F133c7_eq, w1 (show i < 4611686018427387904 by omega)]
    unfold extB
    have e1 : decide (vcmp (l.getD i zVal) x = (bif g then 1 else -1)) = ((g && decide (0 < vcmp (l.getD i zVal) x)) || (!g && decide (vcmp (l.getD i zVal) x < 0))) := by
     rcases hc with h | h | h <;> rw [h] <;> cases g <;> rfl
    rw [e1]
    cases decide ((l.getD i zVal).kind = 0) <;> cases decide (x.kind = 0) <;> cases g <;> cases decide (0 < vcmp (l.getD i zVal) x) <;> cases decide (vcmp (l.getD i zVal) x < 0) <;> rfl
   ·cases extB g (l.getD i zVal) x with
    | true => exact hvi
    | false => exact hx.1) l.length 4000000 0 zVal (by omega) (by omega) (by omega) ⟨rfl, rfl⟩
 exact e
/-! ## Functions of fixed types -/
theorem pstarts_run (a b : List Int) : F162.run [PK.v Ty.str, PK.v Ty.str] [RK.v Ty.bool] 4000000 (a, b, ()) = some (((decide (b.length ≤ a.length) && decide (a.take b.length = b)), ()), ()) := by
 have h : F172.run [PK.v Ty.str, PK.v Ty.str] [RK.v Ty.bool] 4000000 (a, b, ()) = some (((decide (b.length ≤ a.length) && decide (a.take b.length = b)), ()), ()) := by
  rw [F172_run]
  by_cases h : b.length ≤ a.length
  ·rw [cdt (by omega), if_pos (by omega), Int.toNat_natCast, decide_eq_true h]; rfl
  ·rw [cdf (by omega), decide_eq_false h]; rfl
 rw [F162_run, bnd h]
theorem pfix_run {x : List Int} {l : List Val} (hx : (sigT x).2.2 = true) (hl : l.length = (sigT x).1.length) (ht : ∀ v ∈ l, GV v) : F135.run [PK.v Ty.str, PK.v (Ty.nm 0).sl] [RK.v (Ty.nm 0)] 4000000 (x, l, ()) = some ((fixV x l, ()), ()) := by
 have t : ∀ i, i < l.length → F156.run [PK.v (Ty.int .i64), PK.bw (Ty.nm 0).sl] [RK.v Ty.str] 4000000 ((i : Int), l, ()) = some (((l.getD i zVal).text, ()), (l, ())) := fun i hi => by
  rw [F156_run, gd hi, Int.toNat_natCast]
 have n : ∀ i, i < l.length → F157.run [PK.v (Ty.int .i64), PK.bw (Ty.nm 0).sl] [RK.v (Ty.int .i64)] 4000000 ((i : Int), l, ()) = some (((l.getD i zVal).int, ()), (l, ())) := fun i hi => by
  rw [F157_run, gd hi, Int.toNat_natCast]
 have q0 : 0 < l.length → F156.run [PK.v (Ty.int .i64), PK.bw (Ty.nm 0).sl] [RK.v Ty.str] 4000000 ((0 : Int), l, ()) = some (((l.getD 0 zVal).text, ()), (l, ())) := t 0
 have q1 : 1 < l.length → F156.run [PK.v (Ty.int .i64), PK.bw (Ty.nm 0).sl] [RK.v Ty.str] 4000000 ((1 : Int), l, ()) = some (((l.getD 1 zVal).text, ()), (l, ())) := t 1
 have m0 : 0 < l.length → F157.run [PK.v (Ty.int .i64), PK.bw (Ty.nm 0).sl] [RK.v (Ty.int .i64)] 4000000 ((0 : Int), l, ()) = some (((l.getD 0 zVal).int, ()), (l, ())) := n 0
 have m1 : 1 < l.length → F157.run [PK.v (Ty.int .i64), PK.bw (Ty.nm 0).sl] [RK.v (Ty.int .i64)] 4000000 ((1 : Int), l, ()) = some (((l.getD 1 zVal).int, ()), (l, ())) := n 1
 have m2 : 2 < l.length → F157.run [PK.v (Ty.int .i64), PK.bw (Ty.nm 0).sl] [RK.v (Ty.int .i64)] 4000000 ((2 : Int), l, ()) = some (((l.getD 2 zVal).int, ()), (l, ())) := n 2
 have iv : ∀ i, F158.run [PK.v (Ty.int .i64)] [RK.v (Ty.nm 0)] 4000000 (i, ()) = some ((⟨2, i, []⟩, ()), ()) := fun i => F158_run _ _
 have sv : ∀ s, F159.run [PK.v Ty.str] [RK.v (Ty.nm 0)] 4000000 (s, ()) = some ((⟨3, 0, s⟩, ()), ()) := fun s => F159_run _ _
 have g : ∀ i, i < l.length → GV (l.getD i zVal) := fun i hi => ht _ (getD_mem hi zVal)
 have tx : ∀ i, i < l.length → (l.getD i zVal).text.length ≤ 4096 := fun i hi => valid_text (g i hi).valid
 rw [show F135.run [PK.v Ty.str, PK.v (Ty.nm 0).sl] [RK.v (Ty.nm 0)] 4000000 (x, l, ()) = _ from F135_run _ _ _]
 rcases sig_cases hx with rfl | rfl | rfl | rfl | rfl | rfl | rfl
 ·have hl : l.length = 1 := hl
  rw [cdt (by rfl), bnd (q0 (by omega)), bnd (iv _)]; rfl
 ·have hl : l.length = 1 := hl
  rw [cdf (by decide), cdt (by rfl), bnd (q0 (by omega)), bnd (pmap_run (hi := 122) (tx 0 (by omega)) rfl), bnd (sv _)]; rfl
 ·have hl : l.length = 1 := hl
  rw [cdf (by decide), cdf (by decide), cdt (by rfl), bnd (q0 (by omega)), bnd (pmap_run (hi := 90) (tx 0 (by omega)) rfl), bnd (sv _)]; rfl
 ·have hl : l.length = 3 := hl
  rw [cdf (by decide), cdf (by decide), cdf (by decide), cdt (by rfl), bnd (q0 (by omega)), bnd (m1 (by omega)), bnd (m2 (by omega)), bnd (ppart_run (tx 0 (by omega)) ⟨(g 1 (by omega)).lo, (g 1 (by omega)).hi⟩ ⟨(g 2 (by omega)).lo, (g 2 (by omega)).hi⟩), bnd (sv _)]; rfl
 ·have hl : l.length = 1 := hl
  rw [cdf (by decide), cdf (by decide), cdf (by decide), cdf (by decide), cdt (by rfl), bnd (m0 (by omega))]
  simp only []
  rw [bnd (m0 (by omega))]
  simp only []
  rw [bnd (m0 (by omega)), bnd (iv _)]
  rw [show fixV nAbs l = (bif decide ((l.getD 0 zVal).int = -9223372036854775808) then zVal else ⟨2, imax (l.getD 0 zVal).int (IntKind.i64.wrap (0 - (l.getD 0 zVal).int)), []⟩) from rfl]
  cases decide ((l.getD 0 zVal).int = -9223372036854775808) <;> rfl
 ·have hl : l.length = 1 := hl
  rw [cdf (by decide), cdf (by decide), cdf (by decide), cdf (by decide), cdf (by decide), cdt (by rfl), bnd (m0 (by omega)), bnd (iv _)]; rfl
 ·have hl : l.length = 2 := hl
  rw [cdf (by decide), cdf (by decide), cdf (by decide), cdf (by decide), cdf (by decide), cdf (by decide), bnd (q0 (by omega))]
  simp only []
  rw [bnd (q1 (by omega)), bnd (pstarts_run _ _)]
  rw [show fixV nStarts l = (⟨1, (bif decide ((l.getD 1 zVal).text.length ≤ (l.getD 0 zVal).text.length) && decide ((l.getD 0 zVal).text.take (l.getD 1 zVal).text.length = (l.getD 1 zVal).text) then 1 else 0), []⟩ : Val) from rfl]
  cases decide ((l.getD 1 zVal).text.length ≤ (l.getD 0 zVal).text.length) <;> cases decide ((l.getD 0 zVal).text.take (l.getD 1 zVal).text.length = (l.getD 1 zVal).text) <;> rfl
theorem psig_run (x : List Int) : F134.run [PK.v Ty.str] [RK.own 3 (Ty.int .i64), RK.v (Ty.int .i64)] 4000000 (x, ()) = some (((sigT x).1, (sigT x).2.1, ()), ()) := by
 rw [F134_run, show F134c1 4000000 x = _ from F134c1_eq 3999999 x, show F134c10 3999999 = _ from F134c10_eq 3999998, show F134c12 3999999 = _ from F134c12_eq 3999998]
 unfold sigT nLength nUpper nLower nSubstr nAbs nParity nStarts
 generalize decide (x = [108, 101, 110, 103, 116, 104]) = b1
 generalize decide (x = [117, 112, 112, 101, 114]) = b2
 generalize decide (x = [108, 111, 119, 101, 114]) = b3
 generalize decide (x = [115, 117, 98, 115, 116, 114]) = b4
 generalize decide (x = [97, 98, 115]) = b5
 generalize decide (x = [112, 97, 114, 105, 116, 121]) = b6
 generalize decide (x = [115, 116, 97, 114, 116, 115, 95, 119, 105, 116, 104]) = b7
 cases b1 <;> cases b2 <;> cases b3 <;> cases b4 <;> cases b5 <;> cases b6 <;> cases b7 <;> rfl
def isGen (x : List Int) : Bool := decide (x = nCoalesce) || (decide (x = nLeast) || (decide (x = nGreatest) || decide (x = nNullif)))
end Go.Proofs.Tryz
