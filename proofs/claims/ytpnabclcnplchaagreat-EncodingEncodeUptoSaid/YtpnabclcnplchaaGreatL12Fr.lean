/- Law 12: frames of reference, of the program and of the reference. -/
import Derived.Test.YtpnabclcnplchaaGreatL12Enc
set_option linter.unusedVariables false
set_option linter.unusedSimpArgs false
namespace Go.Proofs.Tryz
open Go.Eng
/-! Rows that are filled place by place. -/
def fil (g : Nat → Int) (n i : Nat) : List Int := (List.range i).map g ++ List.replicate (n - i) 0
theorem fil_zero (g : Nat → Int) (n : Nat) : fil g n 0 = List.replicate n 0 := by simp [fil]
theorem fil_len {g : Nat → Int} {n i : Nat} (h : i ≤ n) : (fil g n i).length = n := by simp [fil]; omega
theorem fil_end (g : Nat → Int) (n : Nat) : fil g n n = (List.range n).map g := by simp [fil]
theorem fil_set {g : Nat → Int} {n i : Nat} {z : Int} (h : i < n) (hz : z = g i) : (fil g n i).set i z = fil g n (i + 1) := by
 subst hz
 obtain ⟨m, hm⟩ : ∃ m, n - i = m + 1 := ⟨n - i - 1, by omega⟩
 have hr : ((List.range i).map g).length = i := by simp
 rw [fil, fil, hm, show n - (i + 1) = m by omega, List.replicate_succ, List.set_append_right _ _ (by rw [hr]; exact Nat.le_refl i), hr, Nat.sub_self, List.set_cons_zero, List.range_succ, List.map_append, List.append_assoc]
 rfl
theorem getD_map {g : Nat → Int} {n i : Nat} {d : Int} (h : i < n) : ((List.range n).map g).getD i d = g i := by
 rw [List.getD_eq_getElem?_getD, List.getElem?_map, List.getElem?_range h]
 rfl
/-! Sizes of numbers. -/
theorem vEnc_size : ∀ (k n : Nat), n < 128 ^ k → (vEnc n).length = max 1 ((bitlen n + 6) / 7)
 | 0, n, h => by
  have : n = 0 := by simpa using h
  subst this
  rw [vEnc_small (by decide)]
  have : bitlen 0 ≤ 0 := bitlen_le 0 0 (by decide)
  simp only [List.length_singleton]
  omega
 | k + 1, n, h => by
  by_cases hs : n < 128
  ·rw [vEnc_small hs]
   have : bitlen n ≤ 7 := bitlen_le 7 n (by omega)
   simp only [List.length_singleton]
   omega
  ·have h1 : n / 128 < 128 ^ k := Nat.div_lt_of_lt_mul (by rw [Nat.mul_comm, ← Nat.pow_succ]; exact h)
   rw [vEnc_big (by omega), List.length_cons, vEnc_size k _ h1, bitlen_shift 7 n (by omega), show n / 2 ^ 7 = n / 128 from rfl]
   have : 1 ≤ bitlen (n / 128) := by
    rw [bitlen_pos (by omega)]
    omega
   omega
theorem size_run {x : Nat} (hx : x < 18446744073709551616) : F149.run [PK.v (Ty.int IntKind.u64)] [RK.v (Ty.int .i64)] 4000000 ((x : Int), ()) = some (((((vEnc x).length : Nat) : Int), ()), ()) := by
 rw [show F149.run [PK.v (Ty.int IntKind.u64)] [RK.v (Ty.int .i64)] 4000000 ((x : Int), ()) = _ from F149_run _ _, bitwidth_run hx, Option.bind_some]
 have hb : bitlen x ≤ 64 := bitlen_le 64 x hx
 have h6 : IntKind.i64.wrap ((bitlen x : Int) + 6) = ((bitlen x + 6 : Nat) : Int) := by rw [wrap64_id (by omega) (by omega)]; omega
 dsimp only
 rw [h6, show (((bitlen x + 6 : Nat) : Int)).tdiv 7 = (((bitlen x + 6) / 7 : Nat) : Int) from by rw [Int.tdiv_eq_ediv_of_nonneg (by omega)]; omega, wrap64_id (by omega) (by omega), vEnc_size 10 x (by omega), imax]
 congr 3
 split <;> omega
/-! What is added together. -/
theorem vconcat_c3 {L : List (List Int)} (hL : L.length ≤ 1000) (hF : L.flatten.length ≤ 100000000) : ∀ (d i n : Nat), L.length - i = d → i ≤ L.length → d < n →
  F97c3 n L (L.length : Int) i (L.take i).flatten = some ((L.flatten, ()), ())
 | 0, i, n, hd, hi, hn => by
  obtain ⟨n, rfl⟩ : ∃ n', n = n' + 1 := ⟨n - 1, by omega⟩
  rw [F97c3_eq, decide_eq_false (by omega), cond_false, List.take_of_length_le (by omega)]
 | d + 1, i, n, hd, hi, hn => by
  obtain ⟨n, rfl⟩ : ∃ n', n = n' + 1 := ⟨n - 1, by omega⟩
  have hlt : i < L.length := by omega
  have hs := flatten_split hlt
  rw [F97c3_eq, decide_eq_true (by omega), cond_true, if_pos (by omega), if_pos (by omega), Int.toNat_natCast, if_pos (by simp only [lim]; omega), wrap64_id (by omega) (by omega), ← flatten_take hlt]
  exact vconcat_c3 hL hF d (i + 1) n (by omega) (by omega) (by omega)
theorem vconcat_run {L : List (List Int)} (hL : L.length ≤ 1000) (hF : L.flatten.length ≤ 100000000) : F97.run [PK.v (Ty.int IntKind.u8).sl.sl] [RK.own 5 (Ty.int IntKind.u8)] 4000000 (L, ()) = some ((L.flatten, ()), ()) := by
 rw [show F97.run [PK.v (Ty.int IntKind.u8).sl.sl] [RK.own 5 (Ty.int IntKind.u8)] 4000000 (L, ()) = _ from (F97_run _ _).trans (F97c1_eq 3999999 _)]
 exact vconcat_c3 hL hF L.length 0 3999999 (by omega) (by omega) (by omega)
/-! The least of the numbers, and what they are above it. -/
def bas (l : List Int) : Nat → Int
 | 0 => 0
 | i + 1 => if i = 0 then l.getD i 0 else if l.getD i 0 < bas l i then l.getD i 0 else bas l i
def dif1 (l : List Int) (b : Int) (i : Nat) : Int := IntKind.u64.wrap (IntKind.u64.wrap (l.getD i 0) - IntKind.u64.wrap b)
def difs (l : List Int) (b : Int) : List Int := (List.range l.length).map (dif1 l b)
theorem difs_len (l : List Int) (b : Int) : (difs l b).length = l.length := by simp [difs]
theorem u64_rng (z : Int) : ∃ v : Nat, IntKind.u64.wrap z = (v : Int) ∧ v < 18446744073709551616 := by
 have h : IntKind.u64.wrap z = z % 18446744073709551616 := by simp [IntKind.wrap, IntKind.bits, IntKind.signed]
 exact ⟨(z % 18446744073709551616).toNat, by rw [h]; omega, by omega⟩
theorem difs_okU (l : List Int) (b : Int) : okU (difs l b) := by
 intro i hi
 rw [difs_len] at hi
 rw [difs, getD_map hi]
 exact u64_rng _
theorem diff_c10 {l : List Int} {b : Int} (hl : l.length ≤ 1000000) : ∀ (d i n : Nat), l.length - i = d → i ≤ l.length → d < n →
  F93c10 n b l (l.length : Int) i (fil (dif1 l b) l.length i) = some ((b, (difs l b, ())), ())
 | 0, i, n, hd, hi, hn => by
  obtain ⟨n, rfl⟩ : ∃ n', n = n' + 1 := ⟨n - 1, by omega⟩
  have : i = l.length := by omega
  subst this
  rw [F93c10_eq, decide_eq_false (by omega), cond_false, fil_end]
  rfl
 | d + 1, i, n, hd, hi, hn => by
  obtain ⟨n, rfl⟩ : ∃ n', n = n' + 1 := ⟨n - 1, by omega⟩
  have hlt : i < l.length := by omega
  rw [F93c10_eq, decide_eq_true (by omega), cond_true, if_pos (by omega), if_pos (by omega), if_pos (by omega), if_pos (by rw [fil_len hi]; omega), Int.toNat_natCast, wrap64_id (by omega) (by omega), fil_set (g := dif1 l b) (z := IntKind.u64.wrap (IntKind.u64.wrap (l.getD i 0) - IntKind.u64.wrap b)) hlt rfl]
  exact diff_c10 hl d (i + 1) n (by omega) (by omega) (by omega)
theorem diff_c3 {l : List Int} (hl : l.length ≤ 1000000) : ∀ (d i n : Nat), l.length - i = d → i ≤ l.length → 2 * d + l.length + 2 < n →
  F93c3 n l (bas l i) l (l.length : Int) i = some ((bas l l.length, (difs l (bas l l.length), ())), ())
 | 0, i, n, hd, hi, hn => by
  obtain ⟨n, rfl⟩ : ∃ n', n = n' + 1 := ⟨n - 1, by omega⟩
  have : i = l.length := by omega
  subst this
  rw [F93c3_eq, decide_eq_false (by omega), cond_false, if_pos (by simp only [lim]; omega), Int.toNat_natCast, ← fil_zero (dif1 l (bas l l.length))]
  exact diff_c10 hl l.length 0 n (by omega) (by omega) (by omega)
 | d + 1, i, n, hd, hi, hn => by
  obtain ⟨n, rfl⟩ : ∃ n', n = n' + 2 := ⟨n - 2, by omega⟩
  have hlt : i < l.length := by omega
  have ih := diff_c3 hl d (i + 1) n (by omega) (by omega) (by omega)
  have hnext : F93c7 (n + 1) l (bas l (i + 1)) l (l.length : Int) i = some ((bas l l.length, (difs l (bas l l.length), ())), ()) := by
   rw [F93c7_eq, wrap64_id (by omega) (by omega)]
   exact ih
  rw [F93c3_eq, decide_eq_true (by omega), cond_true, if_pos (by omega), if_pos (by omega), Int.toNat_natCast]
  rw [bas] at hnext
  by_cases h0 : i = 0
  ·rw [if_pos h0] at hnext
   rw [decide_eq_true (by omega), cond_true]
   exact hnext
  ·rw [if_neg h0] at hnext
   rw [decide_eq_false (by omega), cond_false]
   by_cases h1 : l.getD i 0 < bas l i
   ·rw [if_pos h1] at hnext
    rw [decide_eq_true h1, cond_true]
    exact hnext
   ·rw [if_neg h1] at hnext
    rw [decide_eq_false h1, cond_false]
    exact hnext
theorem diff_run {l : List Int} (hl : l.length ≤ 1000000) : F93.run [PK.v (Ty.int .i64).sl] [RK.v (Ty.int .i64), RK.own 83 (Ty.int IntKind.u64)] 4000000 (l, ()) = some ((bas l l.length, (difs l (bas l l.length), ())), ()) := by
 rw [show F93.run [PK.v (Ty.int .i64).sl] [RK.v (Ty.int .i64), RK.own 83 (Ty.int IntKind.u64)] 4000000 (l, ()) = _ from (F93_run _ _).trans (F93c1_eq 3999999 _)]
 exact diff_c3 hl l.length 0 3999999 (by omega) (by omega) (by omega)
theorem least_c3 {l : List Int} (hl : l.length ≤ 1000000) : ∀ (d i n : Nat), l.length - i = d → i ≤ l.length → 2 * d < n → F158c3 n l (bas l i) i = some ((bas l l.length, ()), ())
 | 0, i, n, hd, hi, hn => by
  obtain ⟨n, rfl⟩ : ∃ n', n = n' + 1 := ⟨n - 1, by omega⟩
  have : i = l.length := by omega
  subst this
  rw [F158c3_eq, decide_eq_false (by omega), cond_false]
 | d + 1, i, n, hd, hi, hn => by
  obtain ⟨n, rfl⟩ : ∃ n', n = n' + 2 := ⟨n - 2, by omega⟩
  have hlt : i < l.length := by omega
  have ih := least_c3 hl d (i + 1) n (by omega) (by omega) (by omega)
  have hnext : F158c4 (n + 1) l (bas l (i + 1)) i = some ((bas l l.length, ()), ()) := by
   rw [F158c4_eq, wrap64_id (by omega) (by omega)]
   exact ih
  rw [F158c3_eq, decide_eq_true (by omega), cond_true]
  simp only [if_pos (show (0 : Int) ≤ (i : Int) by omega), if_pos (show (i : Int) < (l.length : Int) by omega), Int.toNat_natCast]
  rw [bas] at hnext
  by_cases h0 : i = 0
  ·rw [if_pos h0] at hnext
   rw [decide_eq_true (by omega), cond_true]
   exact hnext
  ·rw [if_neg h0] at hnext
   rw [decide_eq_false (by omega), cond_false]
   by_cases h1 : l.getD i 0 < bas l i
   ·rw [if_pos h1] at hnext
    rw [decide_eq_true h1, cond_true]
    exact hnext
   ·rw [if_neg h1] at hnext
    rw [decide_eq_false h1, cond_false]
    exact hnext
theorem least_run {l : List Int} (hl : l.length ≤ 1000000) : F158.run [PK.v (Ty.int .i64).sl] [RK.v (Ty.int .i64)] 4000000 (l, ()) = some ((bas l l.length, ()), ()) := by
 rw [show F158.run [PK.v (Ty.int .i64).sl] [RK.v (Ty.int .i64)] 4000000 (l, ()) = _ from F158_run _ _]
 exact least_c3 hl l.length 0 4000000 (by omega) (by omega) (by omega)
theorem bas_rng {l : List Int} (h : ∀ x ∈ l, -9223372036854775808 ≤ x ∧ x < 9223372036854775808) : ∀ i, i ≤ l.length → -9223372036854775808 ≤ bas l i ∧ bas l i < 9223372036854775808
 | 0, _ => by unfold bas; omega
 | i + 1, hi => by
  have h1 := h (l.getD i 0) (by rw [List.getD_eq_getElem?_getD, List.getElem?_eq_getElem (by omega)]; exact List.getElem_mem _)
  have h2 := bas_rng h i (by omega)
  unfold bas
  split
  ·exact h1
  ·split
   ·exact h1
   ·exact h2
theorem shrs' (v k : Nat) (hk : k ≤ 64) : (v : Int) / (2 : Int) ^ min (Int.toNat ((k : Nat) : Int)) IntKind.u64.bits = ((v / 2 ^ k : Nat) : Int) := shrs v k hk
/-! What stands above the low bits. -/
def hi (l : List Int) (w i : Nat) : Nat := (l.getD i 0).toNat / 2 ^ w
def exc (l : List Int) (w : Nat) : Nat → Nat
 | 0 => 0
 | i + 1 => if 0 < hi l w i then exc l w i + 1 else exc l w i
def pat (l : List Int) (w : Nat) : Nat → List Int
 | 0 => []
 | i + 1 => if 0 < hi l w i then pat l w i ++ vEnc i ++ vEnc (hi l w i) else pat l w i
theorem exc_le (l : List Int) (w : Nat) : ∀ i, exc l w i ≤ i
 | 0 => Nat.le_refl _
 | i + 1 => by
  have := exc_le l w i
  unfold exc
  split <;> omega
theorem hi_lt {l : List Int} (hu : okU l) {w i : Nat} (h : i < l.length) : hi l w i < 18446744073709551616 := by
 obtain ⟨v, h1, h2⟩ := hu i h
 unfold hi
 rw [h1, Int.toNat_natCast]
 exact Nat.lt_of_le_of_lt (Nat.div_le_self _ _) h2
theorem pat_len {l : List Int} (hu : okU l) (hl : l.length ≤ 1000000) {w : Nat} : ∀ i, i ≤ l.length → (pat l w i).length ≤ 20 * i
 | 0, _ => by simp [pat]
 | i + 1, hi1 => by
  have h1 := pat_len hu hl (w := w) i (by omega)
  have h2 := vEnc_len10 (hi_lt hu (w := w) (i := i) (by omega))
  have h3 := vEnc_len10 (x := i) (by omega)
  unfold pat
  split
  ·rw [List.length_append, List.length_append]; omega
  ·omega
theorem high_run {d w : Nat} (hd : d < 18446744073709551616) (hw : w ≤ 64) : F96.run [PK.v (Ty.int IntKind.u64), PK.v (Ty.int .i64)] [RK.v (Ty.int IntKind.u64)] 4000000 ((d : Int), (w : Int), ()) = some ((((d / 2 ^ w : Nat) : Int), ()), ()) := by
 rw [show F96.run [PK.v (Ty.int IntKind.u64), PK.v (Ty.int .i64)] [RK.v (Ty.int IntKind.u64)] 4000000 ((d : Int), (w : Int), ()) = _ from F96_run _ _ _]
 by_cases h : 64 ≤ w
 ·have : w = 64 := by omega
  subst this
  rw [decide_eq_true (by omega), cond_true, Nat.div_eq_of_lt hd]
  rfl
 ·rw [decide_eq_false (by omega), cond_false, u64_wrap_id (by omega) (by omega), if_pos (by omega), shrs' d w hw]
theorem rhigh_run {d w : Nat} (hd : d < 18446744073709551616) (hw : w ≤ 64) : F160.run [PK.v (Ty.int IntKind.u64), PK.v (Ty.int .i64)] [RK.v (Ty.int IntKind.u64)] 4000000 ((d : Int), (w : Int), ()) = some ((((d / 2 ^ w : Nat) : Int), ()), ()) := by
 rw [show F160.run [PK.v (Ty.int IntKind.u64), PK.v (Ty.int .i64)] [RK.v (Ty.int IntKind.u64)] 4000000 ((d : Int), (w : Int), ()) = _ from F160_run _ _ _]
 by_cases h : w = 64
 ·subst h
  rw [decide_eq_true (by omega), cond_true, Nat.div_eq_of_lt hd]
  rfl
 ·rw [decide_eq_false (by omega), cond_false, u64_wrap_id (by omega) (by omega), if_pos (by omega), shrs' d w hw]
theorem rlow_run {d w : Nat} (hd : d < 18446744073709551616) (hw : w ≤ 64) : F159.run [PK.v (Ty.int IntKind.u64), PK.v (Ty.int .i64)] [RK.v (Ty.int IntKind.u64)] 4000000 ((d : Int), (w : Int), ()) = some ((((d % 2 ^ w : Nat) : Int), ()), ()) := by
 rw [show F159.run [PK.v (Ty.int IntKind.u64), PK.v (Ty.int .i64)] [RK.v (Ty.int IntKind.u64)] 4000000 ((d : Int), (w : Int), ()) = _ from F159_run _ _ _]
 by_cases h : w = 64
 ·subst h
  rw [decide_eq_true (by omega), cond_true, Nat.mod_eq_of_lt hd]
 ·have hp : 2 ^ w ≤ 2 ^ 63 := Nat.pow_le_pow_right (by decide) (by omega)
  have hp1 : 0 < 2 ^ w := Nat.two_pow_pos w
  have h64 : IntKind.u64.bits = 64 := rfl
  rw [decide_eq_false (by omega), cond_false, u64_wrap_id (z := (w : Int)) (by omega) (by omega), if_pos (by omega), Int.toNat_natCast, h64, Nat.min_eq_left hw, Int.one_mul, pow_cast,
   u64_wrap_id (z := ((2 ^ w : Nat) : Int)) (by omega) (by omega), show (((2 ^ w : Nat) : Int) - 1) = ((2 ^ w - 1 : Nat) : Int) by omega, u64_wrap_id (by omega) (by omega), and_ones_u64 hd hw]
def frT (l : List Int) (w : Nat) : List Int :=
 vEnc (zz (bas l l.length)) ++ vEnc w ++ vEnc (exc (difs l (bas l l.length)) w l.length) ++ packT (difs l (bas l l.length)) w ++ pat (difs l (bas l l.length)) w l.length
def lows (D : List Int) (w i : Nat) : List Int := (List.range i).map fun j => (((D.getD j 0).toNat % 2 ^ w : Nat) : Int)
theorem lows_len (D : List Int) (w i : Nat) : (lows D w i).length = i := by simp [lows]
theorem lows_okU {D : List Int} (hu : okU D) {w : Nat} : okU (lows D w D.length) := by
 intro i hi
 rw [lows_len] at hi
 obtain ⟨v, h1, h2⟩ := hu i hi
 refine ⟨(D.getD i 0).toNat % 2 ^ w, by rw [lows, getD_map hi], ?_⟩
 rw [h1, Int.toNat_natCast]
 exact Nat.lt_of_le_of_lt (Nat.mod_le _ _) h2
theorem pk_lows {D : List Int} {w n : Nat} : ∀ i, i ≤ n → pk w (lows D w n) i = pk w D i
 | 0, _ => rfl
 | i + 1, h => by
  rw [pk, pk, pk_lows i (by omega), show (lows D w n).getD i 0 = (((D.getD i 0).toNat % 2 ^ w : Nat) : Int) from getD_map (by omega), Int.toNat_natCast, Nat.mod_mod]
theorem packT_lows (D : List Int) (w : Nat) : packT (lows D w D.length) w = packT D w := by
 unfold packT
 rw [lows_len, pk_lows _ (Nat.le_refl _)]
theorem packT_le {D : List Int} (hl : D.length ≤ 50000) {w : Nat} (hw : w ≤ 64) : (packT D w).length ≤ 400000 := by
 rw [packT_len]
 have := Nat.mul_le_mul hl hw
 unfold psize
 omega
theorem frT_len {l : List Int} (hl : l.length ≤ 50000) (hx : ∀ x ∈ l, -9223372036854775808 ≤ x ∧ x < 9223372036854775808) {w : Nat} (hw : w ≤ 64) : (frT l w).length ≤ 1500000 := by
 have hb := bas_rng hx l.length (Nat.le_refl _)
 have h1 := vEnc_len10 (zz_lt hb.1 hb.2)
 have h2 := vEnc_len10 (x := w) (by omega)
 have h3 := vEnc_len10 (x := exc (difs l (bas l l.length)) w l.length) (by have := exc_le (difs l (bas l l.length)) w l.length; omega)
 have h4 := packT_le (D := difs l (bas l l.length)) (by rw [difs_len]; exact hl) hw
 have h5 := pat_len (difs_okU l (bas l l.length)) (by rw [difs_len]; omega) (w := w) l.length (by rw [difs_len]; exact Nat.le_refl _)
 unfold frT
 simp only [List.length_append]
 omega
/-! The reference: a list in one width, and the width that gives the fewest bytes. -/
def okL (l : List Int) : Prop := ∀ x ∈ l, -9223372036854775808 ≤ x ∧ x < 9223372036854775808
theorem with_c6 {l : List Int} (hl : l.length ≤ 50000) (hx : okL l) {w : Nat} (hw : w ≤ 64) : ∀ (d i n : Nat), l.length - i = d → i ≤ l.length → d < n →
  F112c6 n l (w : Int) (bas l l.length) ((exc (difs l (bas l l.length)) w i : Nat) : Int) (i : Int) (lows (difs l (bas l l.length)) w i) (pat (difs l (bas l l.length)) w i) = some ((frT l w, ()), ())
 | 0, i, n, hd, hi', hn => by
  obtain ⟨n, rfl⟩ : ∃ n', n = n' + 1 := ⟨n - 1, by omega⟩
  have : i = l.length := by omega
  subst this
  have hb := bas_rng hx l.length (Nat.le_refl _)
  have hz := zz_lt hb.1 hb.2
  have h1 := vEnc_len10 hz
  have h2 := vEnc_len10 (x := w) (by omega)
  have he := exc_le (difs l (bas l l.length)) w l.length
  have h3 := vEnc_len10 (x := exc (difs l (bas l l.length)) w l.length) (by omega)
  have hu := difs_okU l (bas l l.length)
  have h4 := packT_le (D := difs l (bas l l.length)) (by rw [difs_len]; exact hl) hw
  have h5 := pat_len hu (by rw [difs_len]; omega) (w := w) l.length (by rw [difs_len]; exact Nat.le_refl _)
  have hlo := lows_okU hu (w := w)
  rw [difs_len] at hlo
  have hpk := packT_lows (difs l (bas l l.length)) w
  rw [difs_len] at hpk
  rw [F112c6_eq, decide_eq_false (by omega), cond_false, rzig_run hb.1 hb.2, Option.bind_some]
  dsimp only
  rw [rvenc_run hz, Option.bind_some]
  dsimp only
  rw [u64_wrap_id (z := (w : Int)) (by omega) (by omega), rvenc_run (by omega), Option.bind_some]
  dsimp only
  rw [if_pos (by simp only [lim]; omega), u64_wrap_id (by omega) (by omega), rvenc_run (by omega), Option.bind_some]
  dsimp only
  rw [if_pos (by simp only [lim, List.length_append]; omega), rpack_run hlo hw (by rw [lows_len]; exact hl), Option.bind_some, hpk]
  dsimp only
  rw [if_pos (by simp only [lim, List.length_append]; omega), if_pos (by simp only [lim, List.length_append]; omega)]
  rfl
 | d + 1, i, n, hd, hi', hn => by
  obtain ⟨n, rfl⟩ : ∃ n', n = n' + 1 := ⟨n - 1, by omega⟩
  have hlt : i < l.length := by omega
  have hu := difs_okU l (bas l l.length)
  have hil : i < (difs l (bas l l.length)).length := by rw [difs_len]; exact hlt
  have he := exc_le (difs l (bas l l.length)) w i
  have h5 := pat_len hu (by rw [difs_len]; omega) (w := w) i (by rw [difs_len]; omega)
  have ih := with_c6 hl hx hw d (i + 1) n (by omega) (by omega) (by omega)
  have hg : IntKind.u64.wrap (IntKind.u64.wrap (l.getD i 0) - IntKind.u64.wrap (bas l l.length)) = (difs l (bas l l.length)).getD i 0 := by
   rw [difs, getD_map hlt]
   rfl
  have hH := hi_lt hu (w := w) hil
  have v1 := vEnc_len10 (x := i) (by omega)
  have v2 := vEnc_len10 hH
  have hlow : lows (difs l (bas l l.length)) w (i + 1) = lows (difs l (bas l l.length)) w i ++ [((((difs l (bas l l.length)).getD i 0).toNat % 2 ^ w : Nat) : Int)] := by
   unfold lows
   rw [List.range_succ, List.map_append]
   rfl
  rw [hlow] at ih
  unfold exc pat at ih
  obtain ⟨v, hv, hvl⟩ := hu i hil
  rw [F112c6_eq, decide_eq_true (by omega), cond_true, if_pos (by omega), if_pos (by omega), Int.toNat_natCast, hg, hv, rlow_run hvl hw, Option.bind_some]
  dsimp only
  have hvn : ((difs l (bas l l.length)).getD i 0).toNat = v := by rw [hv, Int.toNat_natCast]
  have hhi : hi (difs l (bas l l.length)) w i = v / 2 ^ w := by rw [hi, hvn]
  rw [hvn] at ih
  have hrun := rhigh_run hvl hw
  rw [hhi] at ih hH v2
  generalize v / 2 ^ w = q at ih hH v2 hrun
  rw [if_pos (by rw [lows_len]; simp only [lim]; omega), hrun, Option.bind_some]
  dsimp only
  by_cases h0 : 0 < q
  ·rw [if_pos h0, if_pos h0] at ih
   rw [decide_eq_false (show ¬ ((q : Nat) : Int) = 0 by omega)]
   simp only [Bool.not_false, cond_true]
   rw [u64_wrap_id (z := (i : Int)) (by omega) (by omega), rvenc_run (by omega), Option.bind_some]
   dsimp only
   rw [if_pos (by simp only [lim]; omega), rvenc_run hH, Option.bind_some]
   dsimp only
   rw [if_pos (by simp only [lim, List.length_append]; omega), wrap64_id (z := ((exc (difs l (bas l l.length)) w i : Nat) : Int) + 1) (by omega) (by omega), wrap64_id (by omega) (by omega)]
   exact ih
  ·rw [if_neg h0, if_neg h0] at ih
   rw [decide_eq_true (show ((q : Nat) : Int) = 0 by omega)]
   simp only [Bool.not_true, cond_false]
   rw [wrap64_id (by omega) (by omega)]
   exact ih
theorem with_run {l : List Int} (hl : l.length ≤ 50000) (hx : okL l) {w : Nat} (hw : w ≤ 64) : F112.run [PK.v (Ty.int .i64).sl, PK.v (Ty.int .i64)] [RK.own 5 (Ty.int IntKind.u8)] 4000000 (l, (w : Int), ()) = some ((frT l w, ()), ()) := by
 rw [show F112.run [PK.v (Ty.int .i64).sl, PK.v (Ty.int .i64)] [RK.own 5 (Ty.int IntKind.u8)] 4000000 (l, (w : Int), ()) = _ from (F112_run _ _ _).trans (F112c1_eq 3999999 _ _), least_run (by omega), Option.bind_some]
 exact with_c6 hl hx hw l.length 0 3999999 (by omega) (by omega) (by omega)
def nar (g : Nat → Nat) : Nat → Nat
 | 0 => 0
 | w + 1 => if g w < g (nar g w) then w else nar g w
theorem nar_le (g : Nat → Nat) : ∀ w, nar g w ≤ w - 1 ∧ (0 < w → nar g w < w)
 | 0 => by simp [nar]
 | w + 1 => by
  have := nar_le g w
  unfold nar
  split
  ·omega
  ·constructor
   ·omega
   ·intro _
    rcases Nat.eq_zero_or_pos w with h | h
    ·subst h; simp [nar]
    ·have := this.2 h; omega
theorem nar_one (g : Nat → Nat) : nar g 1 = 0 := by simp [nar]
def gl (l : List Int) (w : Nat) : Nat := (frT l w).length
theorem best_c3 {l : List Int} (hl : l.length ≤ 50000) (hx : okL l) : ∀ (d w n : Nat), 65 - w = d → w ≤ 65 → 1 ≤ w → d < n →
  F111c3 n l ((nar (gl l) w : Nat) : Int) ((gl l (nar (gl l) w) : Nat) : Int) (w : Int) = some ((bas l l.length, (((nar (gl l) 65 : Nat) : Int), ())), ())
 | 0, w, n, hd, hw, h1, hn => by
  obtain ⟨n, rfl⟩ : ∃ n', n = n' + 1 := ⟨n - 1, by omega⟩
  have : w = 65 := by omega
  subst this
  rw [F111c3_eq, decide_eq_false (by omega), cond_false, least_run (by omega), Option.bind_some]
 | d + 1, w, n, hd, hw, h1, hn => by
  obtain ⟨n, rfl⟩ : ∃ n', n = n' + 1 := ⟨n - 1, by omega⟩
  have ih := best_c3 hl hx d (w + 1) n (by omega) (by omega) (by omega) (by omega)
  rw [F111c3_eq, decide_eq_true (by omega), cond_true, with_run hl hx (by omega), Option.bind_some]
  dsimp only
  rw [show (frT l w).length = gl l w from rfl, wrap64_id (by omega) (by omega)]
  unfold nar at ih
  by_cases h : gl l w < gl l (nar (gl l) w)
  ·rw [if_pos h] at ih
   rw [decide_eq_true (by omega), cond_true]
   exact ih
  ·rw [if_neg h] at ih
   rw [decide_eq_false (by omega), cond_false]
   exact ih
def frE (l : List Int) : List Int := frT l (nar (gl l) 65)
theorem rframe_run {l : List Int} (hl : l.length ≤ 50000) (hx : okL l) : F64.run [PK.v (Ty.int .i64).sl] [RK.own 5 (Ty.int IntKind.u8)] 4000000 (l, ()) = some ((frE l, ()), ()) := by
 have hn := (nar_le (gl l) 65).1
 have hb : F111.run [PK.v (Ty.int .i64).sl] [RK.v (Ty.int .i64), RK.v (Ty.int .i64)] 4000000 (l, ()) = some ((bas l l.length, (((nar (gl l) 65 : Nat) : Int), ())), ()) := by
  rw [show F111.run [PK.v (Ty.int .i64).sl] [RK.v (Ty.int .i64), RK.v (Ty.int .i64)] 4000000 (l, ()) = _ from F111_run _ _,
   show F112.run [PK.v (Ty.int .i64).sl, PK.v (Ty.int .i64)] [RK.own 5 (Ty.int IntKind.u8)] 4000000 (l, (0 : Int), ()) = _ from with_run hl hx (w := 0) (by omega), Option.bind_some]
  have := best_c3 hl hx 64 1 4000000 (by omega) (by omega) (by omega) (by omega)
  rw [nar_one] at this
  exact this
 rw [show F64.run [PK.v (Ty.int .i64).sl] [RK.own 5 (Ty.int IntKind.u8)] 4000000 (l, ()) = _ from (F64_run _ _).trans (F64c1_eq 3999999 _), hb, Option.bind_some]
 dsimp only
 rw [with_run hl hx (by omega), Option.bind_some]
 rfl
/-! The program: the bytes that every width gives, the width, the bytes. -/
def GL (l : List Int) (w : Nat) : Int := ((gl l w : Nat) : Int)
theorem gl_eq (l : List Int) (w : Nat) : gl l w = (vEnc (zz (bas l l.length))).length + (vEnc w).length + psize l.length w + (pat (difs l (bas l l.length)) w l.length).length + (vEnc (exc (difs l (bas l l.length)) w l.length)).length := by
 unfold gl frT
 simp only [List.length_append, packT_len, difs_len]
 omega
theorem sizes_c8 {l : List Int} (hl : l.length ≤ 50000) (hx : okL l) {w : Nat} (hw : w < 65) {z : List Int} : ∀ (d i k : Nat), l.length - i = d → i ≤ l.length →
  F95c8 (k + d + 1) (bas l l.length) (difs l (bas l l.length)) (w : Int) ((exc (difs l (bas l l.length)) w i : Nat) : Int)
   (((vEnc (zz (bas l l.length))).length + (vEnc w).length + psize l.length w + (pat (difs l (bas l l.length)) w i).length : Nat) : Int) (w : Int) (difs l (bas l l.length)) (l.length : Int) (i : Int) z (fil (GL l) 65 w)
   = F95c3 k (bas l l.length) (difs l (bas l l.length)) ((w + 1 : Nat) : Int) z (fil (GL l) 65 (w + 1))
 | d, i, k, hd, hi' => by
  have hb := bas_rng hx l.length (Nat.le_refl _)
  have h1 := vEnc_len10 (zz_lt hb.1 hb.2)
  have h2 := vEnc_len10 (x := w) (by omega)
  have hs : psize l.length w ≤ 500000 := by
   have := Nat.mul_le_mul hl (show w ≤ 64 by omega)
   unfold psize
   omega
  have hu := difs_okU l (bas l l.length)
  have he := exc_le (difs l (bas l l.length)) w i
  have h5 := pat_len hu (by rw [difs_len]; omega) (w := w) i (by rw [difs_len]; omega)
  match d, hd with
  | 0, hd =>
   have : i = l.length := by omega
   subst this
   have h3 := vEnc_len10 (x := exc (difs l (bas l l.length)) w l.length) (by omega)
   rw [F95c8_eq, decide_eq_false (by omega), cond_false, u64_wrap_id (by omega) (by omega), size_run (by omega), Option.bind_some]
   dsimp only
   rw [if_pos (by omega), if_pos (show (w : Int) < ((65 : Nat) : Int) by omega), Int.toNat_natCast, wrap64_id (by omega) (by omega), wrap64_id (by omega) (by omega), fil_set (g := GL l) hw (by rw [GL, gl_eq]; omega)]
   rfl
  | d + 1, hd =>
   have hlt : i < l.length := by omega
   have hil : i < (difs l (bas l l.length)).length := by rw [difs_len]; exact hlt
   have ih := sizes_c8 hl hx hw (z := z) d (i + 1) k (by omega) (by omega)
   have hH := hi_lt hu (w := w) hil
   have v1 := vEnc_len10 (x := i) (by omega)
   have v2 := vEnc_len10 hH
   unfold exc pat at ih
   obtain ⟨v, hv, hvl⟩ := hu i hil
   have hvn : ((difs l (bas l l.length)).getD i 0).toNat = v := by rw [hv, Int.toNat_natCast]
   have hhi : hi (difs l (bas l l.length)) w i = v / 2 ^ w := by rw [hi, hvn]
   have hrun := high_run hvl (w := w) (by omega)
   rw [hhi] at ih hH v2
   generalize v / 2 ^ w = q at ih hH v2 hrun
   rw [show k + (d + 1) + 1 = (k + d + 1) + 1 from rfl, F95c8_eq, decide_eq_true (by omega), cond_true, if_pos (by omega), if_pos (by rw [difs_len]; omega), Int.toNat_natCast, hv, hrun, Option.bind_some]
   dsimp only
   by_cases h0 : 0 < q
   ·rw [if_pos h0, if_pos h0] at ih
    rw [decide_eq_true (show (0 : Int) < ((q : Nat) : Int) by omega), cond_true, u64_wrap_id (z := (i : Int)) (by omega) (by omega), size_run (by omega), Option.bind_some, size_run hH, Option.bind_some]
    dsimp only
    rw [List.length_append, List.length_append] at ih
    rw [wrap64_id (z := ((exc (difs l (bas l l.length)) w i : Nat) : Int) + 1) (by omega) (by omega), wrap64_id (z := (((vEnc i).length : Nat) : Int) + (((vEnc q).length : Nat) : Int)) (by omega) (by omega), wrap64_id (z := (_ : Int) + ((((vEnc i).length : Nat) : Int) + (((vEnc q).length : Nat) : Int))) (by omega) (by omega), wrap64_id (by omega) (by omega)]
    rw [show (((vEnc (zz (bas l l.length))).length + (vEnc w).length + psize l.length w + (pat (difs l (bas l l.length)) w i).length : Nat) : Int) + ((((vEnc i).length : Nat) : Int) + (((vEnc q).length : Nat) : Int)) = (((vEnc (zz (bas l l.length))).length + (vEnc w).length + psize l.length w + ((pat (difs l (bas l l.length)) w i).length + (vEnc i).length + (vEnc q).length) : Nat) : Int) by omega]
    exact ih
   ·rw [if_neg h0, if_neg h0] at ih
    rw [decide_eq_false (show ¬ (0 : Int) < ((q : Nat) : Int) by omega), cond_false, wrap64_id (by omega) (by omega)]
    exact ih
theorem sizes_c3 {l : List Int} (hl : l.length ≤ 50000) (hx : okL l) {z : List Int} : ∀ (e w n : Nat), 65 - w = e → w ≤ 65 → e * (l.length + 2) < n →
  F95c3 n (bas l l.length) (difs l (bas l l.length)) (w : Int) z (fil (GL l) 65 w) = some ((padL (0 : Int) (65 : Nat) ((List.range 65).map (GL l)), ()), ())
 | 0, w, n, he, hw, hn => by
  obtain ⟨n, rfl⟩ : ∃ n', n = n' + 1 := ⟨n - 1, by omega⟩
  have : w = 65 := by omega
  subst this
  rw [F95c3_eq, decide_eq_false (by omega), cond_false, fil_end]
 | e + 1, w, n, he, hw, hn => by
  rw [Nat.succ_mul] at hn
  obtain ⟨m, rfl⟩ : ∃ m, n = (m + l.length + 1) + 1 := ⟨n - l.length - 2, by omega⟩
  have ih := sizes_c3 hl hx (z := z) e (w + 1) m (by omega) (by omega) (by omega)
  have hb := bas_rng hx l.length (Nat.le_refl _)
  have hz := zz_lt hb.1 hb.2
  have h1 := vEnc_len10 hz
  have h2 := vEnc_len10 (x := w) (by omega)
  have hs : psize l.length w ≤ 500000 := by
   have := Nat.mul_le_mul hl (show w ≤ 64 by omega)
   unfold psize
   omega
  have h8 := sizes_c8 hl hx (w := w) (by omega) (z := z) l.length 0 m (by omega) (by omega)
  rw [ih] at h8
  rw [F95c3_eq, decide_eq_true (by omega), cond_true, zig_run hb.1 hb.2, Option.bind_some]
  dsimp only
  rw [size_run hz, Option.bind_some, u64_wrap_id (by omega) (by omega), size_run (by omega), Option.bind_some, difs_len, psize_run (by omega) (by omega), Option.bind_some]
  dsimp only
  rw [wrap64_id (z := (((vEnc (zz (bas l l.length))).length : Nat) : Int) + (((vEnc w).length : Nat) : Int)) (by omega) (by omega), wrap64_id (by omega) (by omega), ← h8]
  congr 1
theorem sizes_run {l : List Int} (hl : l.length ≤ 50000) (hx : okL l) : F95.run [PK.v (Ty.int .i64), PK.v (Ty.int IntKind.u64).sl] [RK.v (Ty.nm 6)] 4000000 (bas l l.length, difs l (bas l l.length), ()) = some ((padL (0 : Int) (65 : Nat) ((List.range 65).map (GL l)), ()), ()) := by
 rw [show F95.run [PK.v (Ty.int .i64), PK.v (Ty.int IntKind.u64).sl] [RK.v (Ty.nm 6)] 4000000 (bas l l.length, difs l (bas l l.length), ()) = _ from F95_run _ _ _]
 exact sizes_c3 hl hx 65 0 4000000 (by omega) (by omega) (by omega)
theorem padL_map (g : Nat → Int) (k : Nat) : padL (0 : Int) k ((List.range k).map g) = (List.range k).map g := by
 unfold padL
 refine List.map_congr_left fun i hi => ?_
 exact getD_map (List.mem_range.1 hi)
theorem nar_c3 {l : List Int} : ∀ (d w n : Nat), 65 - w = d → w ≤ 65 → d < n → F94c3 n ((nar (gl l) w : Nat) : Int) (w : Int) ((List.range 65).map (GL l)) = some ((((nar (gl l) 65 : Nat) : Int), ()), ())
 | 0, w, n, hd, hw, hn => by
  obtain ⟨n, rfl⟩ : ∃ n', n = n' + 1 := ⟨n - 1, by omega⟩
  have : w = 65 := by omega
  subst this
  rw [F94c3_eq, decide_eq_false (by omega), cond_false]
 | d + 1, w, n, hd, hw, hn => by
  obtain ⟨n, rfl⟩ : ∃ n', n = n' + 1 := ⟨n - 1, by omega⟩
  have ih := nar_c3 (l := l) d (w + 1) n (by omega) (by omega) (by omega)
  have hle := (nar_le (gl l) w).1
  rw [F94c3_eq, decide_eq_true (by omega), cond_true, if_pos (by omega), if_pos (show (w : Int) < ((65 : Nat) : Int) by omega), if_pos (by omega), if_pos (show ((nar (gl l) w : Nat) : Int) < ((65 : Nat) : Int) by omega), Int.toNat_natCast, Int.toNat_natCast, getD_map (by omega), getD_map (by omega), wrap64_id (by omega) (by omega)]
  unfold nar at ih
  unfold GL
  by_cases h : gl l w < gl l (nar (gl l) w)
  ·rw [if_pos h] at ih
   rw [decide_eq_true (by omega), cond_true]
   exact ih
  ·rw [if_neg h] at ih
   rw [decide_eq_false (by omega), cond_false]
   exact ih
theorem narrowest_run {l : List Int} : F94.run [PK.v (Ty.nm 6)] [RK.v (Ty.int .i64)] 4000000 (padL (0 : Int) (65 : Nat) ((List.range 65).map (GL l)), ()) = some ((((nar (gl l) 65 : Nat) : Int), ()), ()) := by
 rw [show F94.run [PK.v (Ty.nm 6)] [RK.v (Ty.int .i64)] 4000000 (padL (0 : Int) (65 : Nat) ((List.range 65).map (GL l)), ()) = _ from F94_run _ _, padL_map, padL_map]
 exact nar_c3 65 0 4000000 (by omega) (by omega) (by omega)
theorem enc_c6 {l : List Int} (hl : l.length ≤ 50000) (hx : okL l) {w : Nat} (hw : w ≤ 64) : ∀ (d i n : Nat), l.length - i = d → i ≤ l.length → d < n →
  F52c6 n (bas l l.length) (w : Int) ((exc (difs l (bas l l.length)) w i : Nat) : Int) (l.length : Int) (i : Int) (difs l (bas l l.length)) (pat (difs l (bas l l.length)) w i) = some ((frT l w, ()), ())
 | d, i, n, hd, hi', hn => by
  obtain ⟨n, rfl⟩ : ∃ n', n = n' + 1 := ⟨n - 1, by omega⟩
  have hb := bas_rng hx l.length (Nat.le_refl _)
  have hz := zz_lt hb.1 hb.2
  have h1 := vEnc_len10 hz
  have h2 := vEnc_len10 (x := w) (by omega)
  have he := exc_le (difs l (bas l l.length)) w i
  have h3 := vEnc_len10 (x := exc (difs l (bas l l.length)) w i) (by omega)
  have hu := difs_okU l (bas l l.length)
  have h4 := packT_le (D := difs l (bas l l.length)) (by rw [difs_len]; exact hl) hw
  have h5 := pat_len hu (by rw [difs_len]; omega) (w := w) i (by rw [difs_len]; omega)
  match d, hd with
  | 0, hd =>
   have : i = l.length := by omega
   subst this
   rw [F52c6_eq, decide_eq_false (by omega), cond_false, zig_run hb.1 hb.2, Option.bind_some]
   dsimp only
   rw [venc_run hz, Option.bind_some]
   dsimp only
   rw [u64_wrap_id (z := (w : Int)) (by omega) (by omega), venc_run (by omega), Option.bind_some]
   dsimp only
   rw [u64_wrap_id (by omega) (by omega), venc_run (by omega), Option.bind_some]
   dsimp only
   rw [vconcat_run (by simp) (by simp only [List.flatten_cons, List.flatten_nil, List.length_append, List.length_nil]; omega), Option.bind_some, pack_run hu hw (by rw [difs_len]; omega), Option.bind_some]
   dsimp only
   rw [vconcat_run (by simp) (by simp only [List.flatten_cons, List.flatten_nil, List.length_append, List.length_nil]; omega), Option.bind_some]
   simp only [List.flatten_cons, List.flatten_nil, List.append_nil, frT, List.append_assoc]
  | d + 1, hd =>
   have hlt : i < l.length := by omega
   have hil : i < (difs l (bas l l.length)).length := by rw [difs_len]; exact hlt
   have ih := enc_c6 hl hx hw d (i + 1) n (by omega) (by omega) (by omega)
   have hH := hi_lt hu (w := w) hil
   have v1 := vEnc_len10 (x := i) (by omega)
   have v2 := vEnc_len10 hH
   unfold exc pat at ih
   obtain ⟨v, hv, hvl⟩ := hu i hil
   have hvn : ((difs l (bas l l.length)).getD i 0).toNat = v := by rw [hv, Int.toNat_natCast]
   have hhi : hi (difs l (bas l l.length)) w i = v / 2 ^ w := by rw [hi, hvn]
   have hrun := high_run hvl hw
   rw [hhi] at ih hH v2
   generalize v / 2 ^ w = q at ih hH v2 hrun
   rw [F52c6_eq, decide_eq_true (by omega), cond_true, if_pos (by omega), if_pos (by rw [difs_len]; omega), Int.toNat_natCast, hv, hrun, Option.bind_some]
   dsimp only
   by_cases h0 : 0 < q
   ·rw [if_pos h0, if_pos h0] at ih
    rw [decide_eq_true (show (0 : Int) < ((q : Nat) : Int) by omega), cond_true, u64_wrap_id (z := (i : Int)) (by omega) (by omega), venc_run (by omega), Option.bind_some, venc_run hH, Option.bind_some]
    dsimp only
    rw [vconcat_run (by simp) (by simp only [List.flatten_cons, List.flatten_nil, List.length_append, List.length_nil]; omega), Option.bind_some, wrap64_id (z := ((exc (difs l (bas l l.length)) w i : Nat) : Int) + 1) (by omega) (by omega), wrap64_id (by omega) (by omega)]
    simp only [List.flatten_cons, List.flatten_nil, List.append_nil]
    rw [List.append_assoc] at ih
    exact ih
   ·rw [if_neg h0, if_neg h0] at ih
    rw [decide_eq_false (show ¬ (0 : Int) < ((q : Nat) : Int) by omega), cond_false, wrap64_id (by omega) (by omega)]
    exact ih
theorem frame_run {l : List Int} (hl : l.length ≤ 50000) (hx : okL l) : F52.run [PK.v (Ty.int .i64).sl] [RK.own 5 (Ty.int IntKind.u8)] 4000000 (l, ()) = some ((frE l, ()), ()) := by
 have hn := (nar_le (gl l) 65).1
 rw [show F52.run [PK.v (Ty.int .i64).sl] [RK.own 5 (Ty.int IntKind.u8)] 4000000 (l, ()) = _ from (F52_run _ _).trans (F52c1_eq 3999999 _), diff_run (by omega), Option.bind_some]
 dsimp only
 rw [sizes_run hl hx, Option.bind_some]
 dsimp only
 rw [narrowest_run, Option.bind_some, difs_len]
 exact enc_c6 hl hx (by omega) l.length 0 3999999 (by omega) (by omega) (by omega)
theorem frE_len {l : List Int} (hl : l.length ≤ 50000) (hx : okL l) : (frE l).length ≤ 1500000 := frT_len hl hx (by have := (nar_le (gl l) 65).1; omega)
/-! Differences. -/
def dif2 (l : List Int) (i : Nat) : Int := IntKind.i64.wrap (l.getD (i + 1) 0 - l.getD i 0)
def dl (l : List Int) : List Int := (List.range (l.length - 1)).map (dif2 l)
theorem dl_len (l : List Int) : (dl l).length = l.length - 1 := by simp [dl]
theorem dl_ok (l : List Int) : okL (dl l) := by
 intro x hx
 obtain ⟨i, _, rfl⟩ := List.mem_map.1 hx
 exact w64_rng _
theorem dl_c5 {l : List Int} (hl : l.length ≤ 1000000) (h2 : 2 ≤ l.length) : ∀ (d i n : Nat), l.length - 1 - i = d → i ≤ l.length - 1 → d < n →
  F100c5 n l ((l.length - 1 : Nat) : Int) (i : Int) (fil (dif2 l) (l.length - 1) i) = some ((dl l, ()), ())
 | 0, i, n, hd, hi', hn => by
  obtain ⟨n, rfl⟩ : ∃ n', n = n' + 1 := ⟨n - 1, by omega⟩
  have : i = l.length - 1 := by omega
  subst this
  rw [F100c5_eq, decide_eq_false (by omega), cond_false, fil_end]
  rfl
 | d + 1, i, n, hd, hi', hn => by
  obtain ⟨n, rfl⟩ : ∃ n', n = n' + 1 := ⟨n - 1, by omega⟩
  rw [F100c5_eq, decide_eq_true (by omega), cond_true, wrap64_id (z := (i : Int) + 1) (by omega) (by omega), show ((i : Int) + 1) = ((i + 1 : Nat) : Int) by omega, if_pos (by omega), if_pos (by omega), if_pos (by omega), if_pos (by omega), if_pos (by omega), if_pos (by rw [fil_len hi']; omega), Int.toNat_natCast, Int.toNat_natCast,
   fil_set (g := dif2 l) (z := IntKind.i64.wrap (l.getD (i + 1) 0 - l.getD i 0)) (by omega) rfl]
  exact dl_c5 hl h2 d (i + 1) n (by omega) (by omega) (by omega)
theorem dl_run {l : List Int} (hl : l.length ≤ 1000000) : F100.run [PK.v (Ty.int .i64).sl] [RK.own 2 (Ty.int .i64)] 4000000 (l, ()) = some ((dl l, ()), ()) := by
 rw [show F100.run [PK.v (Ty.int .i64).sl] [RK.own 2 (Ty.int .i64)] 4000000 (l, ()) = _ from (F100_run _ _).trans (F100c1_eq 3999999 _)]
 by_cases h2 : l.length < 2
 ·rw [decide_eq_true (by omega), cond_true, dl, show l.length - 1 = 0 by omega]
  rfl
 ·rw [decide_eq_false (by omega), cond_false, wrap64_id (by omega) (by omega), show ((l.length : Int) - 1) = ((l.length - 1 : Nat) : Int) by omega, if_pos (by omega), if_pos (by simp only [lim]; omega), Int.toNat_natCast, List.length_replicate, ← fil_zero (dif2 l)]
  exact dl_c5 hl (by omega) (l.length - 1) 0 3999999 (by omega) (by omega) (by omega)
theorem rdl_c3 {l : List Int} (hl : l.length ≤ 1000000) : ∀ (d i n : Nat), l.length - i = d → i ≤ l.length → 1 ≤ i → d < n → F161c3 n l (i : Int) ((List.range (i - 1)).map (dif2 l)) = some ((dl l, ()), ())
 | 0, i, n, hd, hi', h1, hn => by
  obtain ⟨n, rfl⟩ : ∃ n', n = n' + 1 := ⟨n - 1, by omega⟩
  have : i = l.length := by omega
  subst this
  rw [F161c3_eq, decide_eq_false (by omega), cond_false]
  rfl
 | d + 1, i, n, hd, hi', h1, hn => by
  obtain ⟨n, rfl⟩ : ∃ n', n = n' + 1 := ⟨n - 1, by omega⟩
  have ih := rdl_c3 hl d (i + 1) n (by omega) (by omega) (by omega) (by omega)
  obtain ⟨j, rfl⟩ : ∃ j, i = j + 1 := ⟨i - 1, by omega⟩
  rw [show j + 1 + 1 - 1 = j + 1 from rfl, List.range_succ, List.map_append] at ih
  rw [F161c3_eq, decide_eq_true (by omega), cond_true, wrap64_id (z := ((j + 1 : Nat) : Int) - 1) (by omega) (by omega), show (((j + 1 : Nat) : Int) - 1) = ((j : Nat) : Int) by omega, if_pos (by omega), if_pos (by omega), if_pos (by omega), if_pos (by omega), if_pos (by simp only [List.length_map, List.length_range, lim]; omega), Int.toNat_natCast, Int.toNat_natCast, wrap64_id (by omega) (by omega)]
  exact ih
theorem rdl_run {l : List Int} (hl : l.length ≤ 1000000) : F161.run [PK.v (Ty.int .i64).sl] [RK.own 2 (Ty.int .i64)] 4000000 (l, ()) = some ((dl l, ()), ()) := by
 rw [show F161.run [PK.v (Ty.int .i64).sl] [RK.own 2 (Ty.int .i64)] 4000000 (l, ()) = _ from (F161_run _ _).trans (F161c1_eq 3999999 _)]
 by_cases h1 : 1 ≤ l.length
 ·exact rdl_c3 hl (l.length - 1) 1 3999999 (by omega) (by omega) (by omega) (by omega)
 ·have : l = [] := List.eq_nil_of_length_eq_zero (by omega)
  subst this
  rw [F161c3_eq (n := 3999998)]
  rfl
end Go.Proofs.Tryz
