/- Law 12, after law 10: numbers of seven bits a byte, widths, packed numbers, runs: what the program and the reference compute. -/
import Derived.Test.YtpnabclcnplchaaGreatL12Build
import Derived.Test.YtpnabclcnplchaaGreatEngine5
set_option linter.unusedVariables false
set_option linter.unusedSimpArgs false
namespace Go.Proofs.Tryz
open Go.Eng
/-! Widths. -/
def len8 : List Int := [0, 1, 2, 2, 3, 3, 3, 3, 4, 4, 4, 4, 4, 4, 4, 4, 5, 5, 5, 5, 5, 5, 5, 5, 5, 5, 5, 5, 5, 5, 5, 5, 6, 6, 6, 6, 6, 6, 6, 6, 6, 6, 6, 6, 6, 6, 6, 6, 6, 6, 6, 6, 6, 6, 6, 6, 6, 6, 6, 6, 6, 6, 6, 6, 7, 7, 7, 7, 7, 7, 7, 7, 7, 7, 7, 7, 7, 7, 7, 7, 7, 7, 7, 7, 7, 7, 7, 7, 7, 7, 7, 7, 7, 7, 7, 7, 7, 7, 7, 7, 7, 7, 7, 7, 7, 7, 7, 7, 7, 7, 7, 7, 7, 7, 7, 7, 7, 7, 7, 7, 7, 7, 7, 7, 7, 7, 7, 7, 8, 8, 8, 8, 8, 8, 8, 8, 8, 8, 8, 8, 8, 8, 8, 8, 8, 8, 8, 8, 8, 8, 8, 8, 8, 8, 8, 8, 8, 8, 8, 8, 8, 8, 8, 8, 8, 8, 8, 8, 8, 8, 8, 8, 8, 8, 8, 8, 8, 8, 8, 8, 8, 8, 8, 8, 8, 8, 8, 8, 8, 8, 8, 8, 8, 8, 8, 8, 8, 8, 8, 8, 8, 8, 8, 8, 8, 8, 8, 8, 8, 8, 8, 8, 8, 8, 8, 8, 8, 8, 8, 8, 8, 8, 8, 8, 8, 8, 8, 8, 8, 8, 8, 8, 8, 8, 8, 8, 8, 8, 8, 8, 8, 8, 8, 8, 8, 8, 8, 8, 8, 8, 8, 8, 8, 8, 8, 8]
def bl : Nat → Nat → Nat
 | 0, _ => 0
 | f + 1, n => if n = 0 then 0 else bl f (n / 2) + 1
theorem bl_eq : ∀ (f n : Nat), n < 2 ^ f → bl f n = bitlen n
 | 0, n, h => by
  have : n = 0 := by simpa using h
  rw [this, bitlen, bl]
 | f + 1, n, h => by
  rw [bl]
  by_cases hn : n = 0
  ·rw [if_pos hn, hn, bitlen]
  ·rw [if_neg hn, bl_eq f (n / 2) (by rw [Nat.pow_succ] at h; omega), ← bitlen_pos (by omega)]
theorem len8_all : ∀ x : Fin 256, len8.getD x.val 0 = ((bl 8 x.val : Nat) : Int) := by decide +kernel
theorem len8_eq {x : Nat} (h : x < 256) : len8.getD x 0 = ((bitlen x : Nat) : Int) := by
 rw [len8_all ⟨x, h⟩, bl_eq 8 x h]
theorem pow_cast (k : Nat) : (2 : Int) ^ k = ((2 ^ k : Nat) : Int) := by simp
theorem shr_cast (v k : Nat) : (v : Int) / (2 : Int) ^ k = ((v / 2 ^ k : Nat) : Int) := by rw [pow_cast, Int.natCast_ediv]
theorem len64_c10 {n x w : Nat} (hx : x < 256) (hw : w ≤ 100) : F173c10 (n + 1) x w = some ((((w + bitlen x : Nat) : Int), ()), ()) := by
 have h := F173c10_eq n x w
 rw [u8_wrap, Nat.mod_eq_of_lt hx] at h
 rw [h]
 have hl := len8_eq hx
 have hb := bitlen_le 8 x hx
 rw [if_pos (by omega), if_pos (by omega), Int.toNat_natCast]
 show some ((IntKind.i64.wrap ((w : Int) + IntKind.i64.wrap (len8.getD x 0)), ()), ()) = _
 rw [hl, wrap64_id (z := ((bitlen x : Nat) : Int)) (by omega) (by omega), wrap64_id (by omega) (by omega)]
 rfl
theorem shrs (v k : Nat) (hk : k ≤ 64) : (v : Int) / (2 : Int) ^ min (Int.toNat (k : Int)) IntKind.u64.bits = ((v / 2 ^ k : Nat) : Int) := by
 rw [show IntKind.u64.bits = 64 from rfl, Int.toNat_natCast, Nat.min_eq_left hk, shr_cast]
theorem len64_c7 {n x w : Nat} (hx : x < 65536) (hw : w ≤ 90) : F173c7 (n + 2) x w = some ((((w + bitlen x : Nat) : Int), ()), ()) := by
 rw [F173c7_eq]
 by_cases h : 256 ≤ x
 ·rw [decide_eq_true (by omega), cond_true, show ((x : Int) / (2 : Int) ^ min (Int.toNat (8 : Int)) IntKind.u64.bits) = ((x / 2 ^ 8 : Nat) : Int) from shrs x 8 (by decide), wrap64_id (by omega) (by omega), show ((w : Int) + 8) = ((w + 8 : Nat) : Int) by omega, len64_c10 (by omega) (by omega), bitlen_shift 8 x h]
  congr 4
  omega
 ·rw [decide_eq_false (by omega), cond_false, len64_c10 (by omega) (by omega)]
theorem len64_c4 {n x w : Nat} (hx : x < 4294967296) (hw : w ≤ 70) : F173c4 (n + 3) x w = some ((((w + bitlen x : Nat) : Int), ()), ()) := by
 rw [F173c4_eq]
 by_cases h : 65536 ≤ x
 ·rw [decide_eq_true (by omega), cond_true, show ((x : Int) / (2 : Int) ^ min (Int.toNat (16 : Int)) IntKind.u64.bits) = ((x / 2 ^ 16 : Nat) : Int) from shrs x 16 (by decide), wrap64_id (by omega) (by omega), show ((w : Int) + 16) = ((w + 16 : Nat) : Int) by omega, len64_c7 (by omega) (by omega), bitlen_shift 16 x h]
  congr 4
  omega
 ·rw [decide_eq_false (by omega), cond_false, len64_c7 (by omega) (by omega)]
theorem len64_run {x : Nat} (hx : x < 18446744073709551616) : F173.run [PK.v (Ty.int IntKind.u64)] [RK.v (Ty.int .i64)] 4000000 ((x : Int), ()) = some ((((bitlen x : Nat) : Int), ()), ()) := by
 rw [show F173.run [PK.v (Ty.int IntKind.u64)] [RK.v (Ty.int .i64)] 4000000 ((x : Int), ()) = _ from F173_run _ _]
 by_cases h : 4294967296 ≤ x
 ·rw [decide_eq_true (by omega), cond_true, show ((x : Int) / (2 : Int) ^ min (Int.toNat (32 : Int)) IntKind.u64.bits) = ((x / 2 ^ 32 : Nat) : Int) from shrs x 32 (by decide)]
  have := len64_c4 (n := 3999997) (x := x / 2 ^ 32) (w := 32) (by omega) (by omega)
  rw [bitlen_shift 32 x h, Nat.add_comm]
  exact this
 ·rw [decide_eq_false (by omega), cond_false]
  have := len64_c4 (n := 3999997) (x := x) (w := 0) (by omega) (by omega)
  rw [Nat.zero_add] at this
  exact this
theorem bitwidth_run {x : Nat} (hx : x < 18446744073709551616) : F155.run [PK.v (Ty.int IntKind.u64)] [RK.v (Ty.int .i64)] 4000000 ((x : Int), ()) = some ((((bitlen x : Nat) : Int), ()), ()) := by
 rw [show F155.run [PK.v (Ty.int IntKind.u64)] [RK.v (Ty.int .i64)] 4000000 ((x : Int), ()) = _ from F155_run _ _, len64_run hx]
 rfl
theorem refwidth_c2 : ∀ (n x w : Nat), x < 18446744073709551616 → bitlen x < n → w + bitlen x ≤ 1000 → F163c2 n x w = some ((((w + bitlen x : Nat) : Int), ()), ())
 | 0, x, w, _, h, _ => by omega
 | n + 1, x, w, hx, h, hw => by
  rw [F163c2_eq]
  rcases Nat.eq_zero_or_pos x with rfl | hp
  ·rw [decide_eq_false (by omega), bitlen]; rfl
  ·have hb := bitlen_pos hp
   rw [decide_eq_true (by omega), cond_true, Int.tdiv_eq_ediv_of_nonneg (by omega), show ((x : Int) / 2) = ((x / 2 : Nat) : Int) by omega, u64_wrap_id (by omega) (by omega), wrap64_id (by omega) (by omega), show ((w : Int) + 1) = ((w + 1 : Nat) : Int) by omega, refwidth_c2 n (x / 2) (w + 1) (by omega) (by omega) (by omega), hb]
   congr 4
   omega
theorem refwidth_run {x : Nat} (hx : x < 18446744073709551616) : F163.run [PK.v (Ty.int IntKind.u64)] [RK.v (Ty.int .i64)] 4000000 ((x : Int), ()) = some ((((bitlen x : Nat) : Int), ()), ()) := by
 rw [show F163.run [PK.v (Ty.int IntKind.u64)] [RK.v (Ty.int .i64)] 4000000 ((x : Int), ()) = _ from F163_run _ _]
 have hb := bitlen_le 64 x hx
 have := refwidth_c2 4000000 x 0 hx (by omega) (by omega)
 rw [Nat.zero_add] at this
 exact this
def cw (n : Nat) : Nat := if n = 0 then 0 else bitlen (n - 1)
theorem width_run {x : Nat} (hx : x < 4000000) : F102.run [PK.v (Ty.int .i64)] [RK.v (Ty.int .i64)] 4000000 ((x : Int), ()) = some ((((cw x : Nat) : Int), ()), ()) := by
 rw [show F102.run [PK.v (Ty.int .i64)] [RK.v (Ty.int .i64)] 4000000 ((x : Int), ()) = _ from F102_run _ _, cw]
 by_cases h : x = 0
 ·rw [decide_eq_true (by omega), if_pos h]; rfl
 ·rw [decide_eq_false (by omega), if_neg h, cond_false, wrap64_id (by omega) (by omega), show ((x : Int) - 1) = ((x - 1 : Nat) : Int) by omega, u64_wrap_id (by omega) (by omega), bitwidth_run (by omega)]
  rfl
theorem rwidth_run {x : Nat} (hx : x < 4000000) : F116.run [PK.v (Ty.int .i64)] [RK.v (Ty.int .i64)] 4000000 ((x : Int), ()) = some ((((cw x : Nat) : Int), ()), ()) := by
 rw [show F116.run [PK.v (Ty.int .i64)] [RK.v (Ty.int .i64)] 4000000 ((x : Int), ()) = _ from F116_run _ _, cw]
 by_cases h : x = 0
 ·rw [decide_eq_true (by omega), if_pos h]; rfl
 ·rw [decide_eq_false (by omega), if_neg h, cond_false, wrap64_id (by omega) (by omega), show ((x : Int) - 1) = ((x - 1 : Nat) : Int) by omega, u64_wrap_id (by omega) (by omega), refwidth_run (by omega)]
  rfl
theorem cw_le {x : Nat} (hx : x < 4000000) : cw x ≤ 22 := by
 unfold cw
 by_cases h : x = 0
 ·rw [if_pos h]; omega
 ·rw [if_neg h]; exact bitlen_le 22 _ (by omega)
/-! Numbers of seven bits a byte. -/
theorem or128 {a : Nat} (h : a < 256) : a ||| 128 = 128 + a % 128 := by
 by_cases hs : a < 128
 ·have := or_add (a := a) (y := 1) (r := 7) hs
  simp only [Nat.one_mul, show (2 : Nat) ^ 7 = 128 from rfl] at this
  rw [this]
  omega
 ·have h1 := or_add (a := a - 128) (y := 1) (r := 7) (by omega)
  simp only [Nat.one_mul, show (2 : Nat) ^ 7 = 128 from rfl] at h1
  have h2 : a = (a - 128) ||| 128 := by rw [h1]; omega
  rw [h2, Nat.or_assoc, Nat.or_self, h1]
  omega
theorem venc_c2 : ∀ (n x : Nat) (acc : List Int), x < 18446744073709551616 → (vEnc x).length < n → acc.length + (vEnc x).length ≤ 4294967296 → F91c2 n x acc = some ((acc ++ vEnc x, ()), ())
 | 0, x, acc, _, h, _ => by omega
 | n + 1, x, acc, hx, h, hl => by
  rw [F91c2_eq]
  by_cases hs : x < 128
  ·rw [vEnc_small hs] at hl ⊢
   simp only [List.length_singleton] at hl
   rw [decide_eq_false (by omega), cond_false, if_pos (by simp only [lim]; omega), u8_wrap_id (by omega) (by omega)]
  ·rw [vEnc_big (by omega)] at hl h ⊢
   simp only [List.length_cons] at hl h
   rw [decide_eq_true (by omega), cond_true, if_pos (by simp only [lim]; omega), show ((x : Int) / (2 : Int) ^ min (Int.toNat (7 : Int)) IntKind.u64.bits) = ((x / 2 ^ 7 : Nat) : Int) from shrs x 7 (by decide), u8_wrap,
    show Go.bits BinOp.or IntKind.u8 ((x % 256 : Nat) : Int) (128 : Int) = ((x % 256 ||| 128 : Nat) : Int) from or_u8 (by omega) (by decide), or128 (by omega), show x % 256 % 128 = x % 128 by omega,
    venc_c2 n (x / 2 ^ 7) _ (by omega) (by rw [show x / 2 ^ 7 = x / 128 from rfl]; omega) (by rw [show x / 2 ^ 7 = x / 128 from rfl, List.length_append, List.length_singleton]; omega), List.append_assoc]
   rfl
theorem vEnc_len10 {x : Nat} (hx : x < 18446744073709551616) : (vEnc x).length ≤ 10 := vEnc_len 9 x (by omega)
theorem venc_run {x : Nat} (hx : x < 18446744073709551616) : F91.run [PK.v (Ty.int IntKind.u64)] [RK.own 5 (Ty.int IntKind.u8)] 4000000 ((x : Int), ()) = some ((vEnc x, ()), ()) := by
 have := vEnc_len10 hx
 rw [show F91.run [PK.v (Ty.int IntKind.u64)] [RK.own 5 (Ty.int IntKind.u8)] 4000000 ((x : Int), ()) = _ from (F91_run _ _).trans (F91c1_eq 3999999 _), venc_c2 3999999 x [] hx (by omega) (by simp only [List.length_nil]; omega), List.nil_append]
theorem rvenc_c2 : ∀ (n x : Nat) (acc : List Int), x < 18446744073709551616 → (vEnc x).length < n → acc.length + (vEnc x).length ≤ 4294967296 → F108c2 n x acc = some ((acc ++ vEnc x, ()), ())
 | 0, x, acc, _, h, _ => by omega
 | n + 1, x, acc, hx, h, hl => by
  rw [F108c2_eq]
  by_cases hs : x < 128
  ·rw [vEnc_small hs] at hl ⊢
   simp only [List.length_singleton] at hl
   rw [decide_eq_false (by omega), cond_false, if_pos (by simp only [lim]; omega), u8_wrap_id (by omega) (by omega)]
  ·rw [vEnc_big (by omega)] at hl h ⊢
   simp only [List.length_cons] at hl h
   rw [decide_eq_true (by omega), cond_true, if_pos (by simp only [lim]; omega), Int.tdiv_eq_ediv_of_nonneg (by omega), Int.tmod_eq_emod_of_nonneg (by omega), show ((x : Int) / 128) = ((x / 128 : Nat) : Int) by omega, show ((128 : Int) + (x : Int) % 128) = ((128 + x % 128 : Nat) : Int) by omega,
    u64_wrap_id (by omega) (by omega), u64_wrap_id (by omega) (by omega), u8_wrap_id (by omega) (by omega), rvenc_c2 n (x / 128) _ (by omega) (by omega) (by rw [List.length_append, List.length_singleton]; omega), List.append_assoc]
   rfl
theorem rvenc_run {x : Nat} (hx : x < 18446744073709551616) : F108.run [PK.v (Ty.int IntKind.u64)] [RK.own 5 (Ty.int IntKind.u8)] 4000000 ((x : Int), ()) = some ((vEnc x, ()), ()) := by
 have := vEnc_len10 hx
 rw [show F108.run [PK.v (Ty.int IntKind.u64)] [RK.own 5 (Ty.int IntKind.u8)] 4000000 ((x : Int), ()) = _ from (F108_run _ _).trans (F108c1_eq 3999999 _), rvenc_c2 3999999 x [] hx (by omega) (by simp only [List.length_nil]; omega), List.nil_append]
/-! Parts put together. -/
theorem concat_c6 {L : List (List Int)} {i : Nat} (hi : i < L.length) (hL : L.length ≤ 3000000) : ∀ (d k n : Nat) (acc : List Int), (L.getD i []).length - k = d → k ≤ (L.getD i []).length → d < n → acc.length + d ≤ 4294967296 → (L.getD i []).length ≤ 200000000 →
  ∃ m, n = m + d + 1 ∧ F110c6 n L i k acc = F110c3 m L ((i + 1 : Nat) : Int) (acc ++ (L.getD i []).drop k)
 | 0, k, n, acc, hd, hk, hn, ha, h4 => by
  obtain ⟨n, rfl⟩ : ∃ n', n = n' + 1 := ⟨n - 1, by omega⟩
  refine ⟨n, rfl, ?_⟩
  rw [F110c6_eq]
  simp only [if_pos (show (0 : Int) ≤ (i : Int) by omega), if_pos (show (i : Int) < (L.length : Int) by omega), Int.toNat_natCast]
  rw [decide_eq_false (by omega), cond_false, wrap64_id (by omega) (by omega), List.drop_eq_nil_of_le (by omega), List.append_nil]
  rfl
 | d + 1, k, n, acc, hd, hk, hn, ha, h4 => by
  obtain ⟨n, rfl⟩ : ∃ n', n = n' + 1 := ⟨n - 1, by omega⟩
  have hkl : k < (L.getD i []).length := by omega
  obtain ⟨m, h1, h2⟩ := concat_c6 hi hL d (k + 1) n (acc ++ [(L.getD i []).getD k 0]) (by omega) (by omega) (by omega) (by rw [List.length_append, List.length_singleton]; omega) h4
  refine ⟨m, by omega, ?_⟩
  rw [F110c6_eq]
  simp only [if_pos (show (0 : Int) ≤ (i : Int) by omega), if_pos (show (i : Int) < (L.length : Int) by omega), Int.toNat_natCast]
  rw [decide_eq_true (by omega), cond_true]
  simp only [if_pos (show (0 : Int) ≤ (k : Int) by omega)]
  rw [if_pos (by omega), if_pos (by simp only [lim, List.length_singleton]; omega), wrap64_id (by omega) (by omega), show ((k : Int) + 1) = ((k + 1 : Nat) : Int) by omega, h2, List.append_assoc]
  congr 2
  rw [List.drop_eq_getElem_cons hkl, List.getD_eq_getElem?_getD (l := L.getD i []) (i := k), List.getElem?_eq_getElem hkl]
  rfl
theorem flatten_take {L : List (List Int)} {i : Nat} (hi : i < L.length) : (L.take (i + 1)).flatten = (L.take i).flatten ++ L.getD i [] := by
 rw [List.take_succ_eq_append_getElem hi, List.flatten_append, List.getD_eq_getElem?_getD, List.getElem?_eq_getElem hi]
 simp
theorem flatten_split {L : List (List Int)} {i : Nat} (hi : i < L.length) : L.flatten.length = (L.take i).flatten.length + (L.getD i []).length + (L.drop (i + 1)).flatten.length := by
 have h := List.take_append_drop (i + 1) L
 have h2 : L.flatten = (L.take (i + 1)).flatten ++ (L.drop (i + 1)).flatten := by rw [← List.flatten_append, h]
 rw [h2, flatten_take hi, List.length_append, List.length_append]
theorem concat_c3 {L : List (List Int)} (hL : L.length ≤ 1000000) (hF : L.flatten.length ≤ 190000000) : ∀ (d i n : Nat), L.length - i = d → i ≤ L.length → (L.drop i).flatten.length + 2 * d < n → F110c3 n L i (L.take i).flatten = some ((L.flatten, ()), ())
 | 0, i, n, hd, hi, hn => by
  obtain ⟨n, rfl⟩ : ∃ n', n = n' + 1 := ⟨n - 1, by omega⟩
  rw [F110c3_eq, decide_eq_false (by omega), cond_false, List.take_of_length_le (by omega)]
 | d + 1, i, n, hd, hi, hn => by
  obtain ⟨n, rfl⟩ : ∃ n', n = n' + 1 := ⟨n - 1, by omega⟩
  have hlt : i < L.length := by omega
  have hs := flatten_split hlt
  have hdr : (L.drop i).flatten.length = (L.getD i []).length + (L.drop (i + 1)).flatten.length := by
   rw [List.drop_eq_getElem_cons hlt, List.flatten_cons, List.length_append, List.getD_eq_getElem?_getD, List.getElem?_eq_getElem hlt]
   rfl
  obtain ⟨m, h1, h2⟩ := concat_c6 hlt (by omega) (L.getD i []).length 0 n (L.take i).flatten (by omega) (by omega) (by omega) (by omega) (by omega)
  rw [F110c3_eq, decide_eq_true (by omega), cond_true]
  rw [show F110c6 n L i 0 (L.take i).flatten = _ from h2, List.drop_zero, ← flatten_take hlt]
  exact concat_c3 hL hF d (i + 1) m (by omega) (by omega) (by omega)
theorem concat_run {L : List (List Int)} (hL : L.length ≤ 900000) (hF : L.flatten.length ≤ 190000000) : F110.run [PK.v (Ty.int IntKind.u8).sl.sl] [RK.own 5 (Ty.int IntKind.u8)] 400000000 (L, ()) = some ((L.flatten, ()), ()) := by
 rw [show F110.run [PK.v (Ty.int IntKind.u8).sl.sl] [RK.own 5 (Ty.int IntKind.u8)] 400000000 (L, ()) = _ from (F110_run _ _).trans (F110c1_eq 399999999 _)]
 exact concat_c3 (by omega) hF L.length 0 399999999 (by omega) (by omega) (by rw [List.drop_zero]; omega)
theorem text_run {s : List Int} (hs : s.length ≤ 1000000) : F115.run [PK.v Ty.str] [RK.own 5 (Ty.int IntKind.u8)] 4000000 (s, ()) = some ((vEnc s.length ++ s, ()), ()) := by
 have hv := vEnc_len10 (x := s.length) (by omega)
 rw [show F115.run [PK.v Ty.str] [RK.own 5 (Ty.int IntKind.u8)] 4000000 (s, ()) = _ from (F115_run _ _).trans (F115c1_eq 3999999 _), u64_wrap_id (by omega) (by omega), rvenc_run (by omega), Option.bind_some, if_pos (show s.length ≤ lim by simp only [lim]; omega), concat_run (L := [vEnc s.length, s]) (by simp) (by simp; omega)]
 simp
end Go.Proofs.Tryz
