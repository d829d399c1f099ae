/- Law 12: vectors, encoded. -/
import Derived.Test.YtpnabclcnplchaaGreatL12Vec
set_option linter.unusedVariables false
set_option linter.unusedSimpArgs false
namespace Go.Proofs.Tryz
open Go.Eng
/-! Which encodings apply. -/
def app (k t : Int) : Bool := if k = 0 then true else if k ≤ 3 then !decide (t = 3) else decide (t = 3)
theorem six {k : Int} (h1 : 0 ≤ k) (h2 : k ≤ 5) : k = 0 ∨ k = 1 ∨ k = 2 ∨ k = 3 ∨ k = 4 ∨ k = 5 := by omega
theorem three {t : Int} (h1 : 1 ≤ t) (h2 : t ≤ 3) : t = 1 ∨ t = 2 ∨ t = 3 := by omega
theorem app_run {k t : Int} (h1 : 0 ≤ k) (h2 : k ≤ 5) (h3 : 1 ≤ t) (h4 : t ≤ 3) : F38.run [PK.v (Ty.int .i64), PK.v (Ty.int .i64)] [RK.v Ty.bool] 4000000 (k, t, ()) = some ((app k t, ()), ()) := by
 rw [show F38.run [PK.v (Ty.int .i64), PK.v (Ty.int .i64)] [RK.v Ty.bool] 4000000 (k, t, ()) = _ from F38_run _ _ _]
 rcases six h1 h2 with rfl | rfl | rfl | rfl | rfl | rfl <;> rcases three h3 h4 with rfl | rfl | rfl <;> rfl
theorem rapp_run {k t : Int} (h1 : 0 ≤ k) (h2 : k ≤ 5) (h3 : 1 ≤ t) (h4 : t ≤ 3) : F25.run [PK.v (Ty.int .i64), PK.v (Ty.int .i64)] [RK.v Ty.bool] 4000000 (t, k, ()) = some ((app k t, ()), ()) := by
 rw [show F25.run [PK.v (Ty.int .i64), PK.v (Ty.int .i64)] [RK.v Ty.bool] 4000000 (t, k, ()) = _ from F25_run _ _ _]
 rcases six h1 h2 with rfl | rfl | rfl | rfl | rfl | rfl <;> rcases three h3 h4 with rfl | rfl | rfl <;> rfl
/-! The size of a vector. -/
def tl (v : Vec) : Nat → Nat
 | 0 => 0
 | i + 1 => tl v i + (v.texts.getD i []).length
def vsz (v : Vec) : Nat := v.ints.length + v.texts.length + v.nulls.length + tl v v.texts.length
theorem tl_mono (v : Vec) : ∀ {i j : Nat}, i ≤ j → tl v i ≤ tl v j
 | i, 0, h => by rw [show i = 0 by omega]; exact Nat.le_refl _
 | i, j + 1, h => by
  rcases Nat.lt_or_ge i (j + 1) with h' | h'
  ·have := tl_mono v (i := i) (j := j) (by omega)
   rw [show tl v (j + 1) = tl v j + (v.texts.getD j []).length from rfl]
   omega
  ·rw [show i = j + 1 by omega]; exact Nat.le_refl _
theorem small_c3 {v : Vec} (hs : vsz v < 4611686018427387904) (hl : v.texts.length ≤ 3000000) : ∀ (d i n : Nat), v.texts.length - i = d → i ≤ v.texts.length → d < n →
  F9c3 n ((v.ints.length + v.texts.length + v.nulls.length + tl v i : Nat) : Int) (i : Int) v = some ((decide (vsz v ≤ 10000), ()), ())
 | 0, i, n, hd, hi', hn => by
  obtain ⟨n, rfl⟩ : ∃ n', n = n' + 1 := ⟨n - 1, by omega⟩
  have : i = v.texts.length := by omega
  subst this
  rw [F9c3_eq, decide_eq_false (by omega), cond_false]
  congr 3
  exact decide_eq_decide.2 (by unfold vsz; omega)
 | d + 1, i, n, hd, hi', hn => by
  obtain ⟨n, rfl⟩ : ∃ n', n = n' + 1 := ⟨n - 1, by omega⟩
  have ih := small_c3 hs hl d (i + 1) n (by omega) (by omega) (by omega)
  have hm := tl_mono v (i := i + 1) (j := v.texts.length) (by omega)
  unfold vsz at hs
  rw [show tl v (i + 1) = tl v i + (v.texts.getD i []).length from rfl] at ih hm
  rw [F9c3_eq, decide_eq_true (by omega), cond_true, if_pos (by omega), if_pos (by omega), Int.toNat_natCast, wrap64_id (by omega) (by omega), wrap64_id (by omega) (by omega),
   show (((v.ints.length + v.texts.length + v.nulls.length + tl v i : Nat) : Int) + ((v.texts.getD i []).length : Int)) = ((v.ints.length + v.texts.length + v.nulls.length + (tl v i + (v.texts.getD i []).length) : Nat) : Int) by omega]
  exact ih
theorem small_run {v : Vec} (hs : vsz v < 4611686018427387904) (hl : v.texts.length ≤ 3000000) : F9.run [PK.v (Ty.nm 0)] [RK.v Ty.bool] 4000000 (v, ()) = some ((decide (vsz v ≤ 10000), ()), ()) := by
 rw [show F9.run [PK.v (Ty.nm 0)] [RK.v Ty.bool] 4000000 (v, ()) = _ from F9_run _ _]
 have h := small_c3 hs hl v.texts.length 0 4000000 (by omega) (by omega) (by omega)
 unfold vsz at hs
 rw [show ((v.ints.length + v.texts.length + v.nulls.length + tl v 0 : Nat) : Int) = (v.ints.length : Int) + (v.texts.length : Int) + (v.nulls.length : Int) by simp only [tl]; omega] at h
 rw [wrap64_id (z := (v.ints.length : Int) + (v.texts.length : Int)) (by omega) (by omega), wrap64_id (by omega) (by omega)]
 exact h
/-! Plain values. -/
def nmB (l : List Int) : Nat → List Int
 | 0 => []
 | i + 1 => nmB l i ++ fx (IntKind.u64.wrap (l.getD i 0)).toNat
def txB (l : List (List Int)) : Nat → List Int
 | 0 => []
 | i + 1 => txB l i ++ vEnc (l.getD i []).length ++ l.getD i []
theorem nmB_len (l : List Int) : ∀ i, (nmB l i).length = 8 * i
 | 0 => by simp [nmB]
 | i + 1 => by
  have := nmB_len l i
  unfold nmB
  rw [List.length_append, fx_len]
  omega
theorem txB_len {l : List (List Int)} (ht : okT l) : ∀ i, (txB l i).length ≤ 4106 * i
 | 0 => by simp [txB]
 | i + 1 => by
  have h1 := txB_len ht i
  have h2 := okT_get ht i
  have h3 := vEnc_len10 (x := (l.getD i []).length) (by omega)
  unfold txB
  simp only [List.length_append]
  omega
theorem plain_c13 {l : List Int} (hl : l.length ≤ 50000) : ∀ (d i n : Nat), l.length - i = d → i ≤ l.length → d < n → F60c13 n l (l.length : Int) (i : Int) (nmB l i) = some ((nmB l l.length, ()), ())
 | 0, i, n, hd, hi', hn => by
  obtain ⟨n, rfl⟩ : ∃ n', n = n' + 1 := ⟨n - 1, by omega⟩
  have : i = l.length := by omega
  subst this
  rw [F60c13_eq, decide_eq_false (by omega), cond_false]
 | d + 1, i, n, hd, hi', hn => by
  obtain ⟨n, rfl⟩ : ∃ n', n = n' + 1 := ⟨n - 1, by omega⟩
  have ih := plain_c13 hl d (i + 1) n (by omega) (by omega) (by omega)
  have h1 := nmB_len l i
  rw [show nmB l (i + 1) = nmB l i ++ fx (IntKind.u64.wrap (l.getD i 0)).toNat from rfl] at ih
  obtain ⟨x, x1, x2⟩ := u64_rng (l.getD i 0)
  rw [x1, Int.toNat_natCast] at ih
  have h2 := fx_len x
  rw [F60c13_eq, decide_eq_true (by omega), cond_true, if_pos (by omega), if_pos (by omega), Int.toNat_natCast, x1, fixed_run, Option.bind_some]
  dsimp only
  rw [if_pos (by simp only [lim]; omega), wrap64_id (by omega) (by omega)]
  exact ih
theorem plain_c20 {l : List (List Int)} (hl : l.length ≤ 50000) (ht : okT l) : ∀ (d i n : Nat), l.length - i = d → i ≤ l.length → d < n → F60c20 n l (l.length : Int) (i : Int) (txB l i) = some ((txB l l.length, ()), ())
 | 0, i, n, hd, hi', hn => by
  obtain ⟨n, rfl⟩ : ∃ n', n = n' + 1 := ⟨n - 1, by omega⟩
  have : i = l.length := by omega
  subst this
  rw [F60c20_eq, decide_eq_false (by omega), cond_false]
 | d + 1, i, n, hd, hi', hn => by
  obtain ⟨n, rfl⟩ : ∃ n', n = n' + 1 := ⟨n - 1, by omega⟩
  have ih := plain_c20 hl ht d (i + 1) n (by omega) (by omega) (by omega)
  have h1 := txB_len ht i
  have h2 := okT_get ht i
  have h3 := vEnc_len10 (x := (l.getD i []).length) (by omega)
  rw [show txB l (i + 1) = txB l i ++ vEnc (l.getD i []).length ++ l.getD i [] from rfl] at ih
  rw [F60c20_eq, decide_eq_true (by omega), cond_true, if_pos (by omega), if_pos (by omega), Int.toNat_natCast, u64_wrap_id (z := ((l.getD i []).length : Int)) (by omega) (by omega), venc_run (by omega), Option.bind_some]
  dsimp only
  rw [if_pos (by simp only [lim]; omega), if_pos (by simp only [lim, List.length_append]; omega), wrap64_id (by omega) (by omega)]
  exact ih
def plE (v : Vec) : List Int := if v.f_Type = 1 then packT (us v.ints) 1 else if v.f_Type = 2 then nmB v.ints v.ints.length else txB v.texts v.texts.length
theorem plain_run {v : Vec} (hi : v.ints.length ≤ 50000) (htl : v.texts.length ≤ 50000) (ht : okT v.texts) : F60.run [PK.v (Ty.nm 0)] [RK.own 5 (Ty.int IntKind.u8)] 4000000 (v, ()) = some ((plE v, ()), ()) := by
 rw [show F60.run [PK.v (Ty.nm 0)] [RK.own 5 (Ty.int IntKind.u8)] 4000000 (v, ()) = _ from (F60_run _ _).trans (F60c1_eq 3999999 _)]
 unfold plE
 by_cases t1 : v.f_Type = 1
 ·rw [if_pos t1, decide_eq_true t1, cond_true, if_pos (by simp only [lim]; omega), Int.toNat_natCast, ← fil_zero (us1 v.ints)]
  exact plain_c5 hi v.ints.length 0 3999999 (by omega) (by omega) (by omega)
 ·rw [if_neg t1, decide_eq_false t1, cond_false]
  by_cases t2 : v.f_Type = 2
  ·rw [if_pos t2, decide_eq_true t2, cond_true]
   exact plain_c13 hi v.ints.length 0 3999999 (by omega) (by omega) (by omega)
  ·rw [if_neg t2, decide_eq_false t2, cond_false]
   exact plain_c20 htl ht v.texts.length 0 3999999 (by omega) (by omega) (by omega)
/-! The reference's plain values. -/
theorem rus_c3 {l : List Int} (hl : l.length ≤ 50000) : ∀ (d i n : Nat), l.length - i = d → i ≤ l.length → d < n → F106c3 n l (i : Int) ((List.range i).map (us1 l)) = some ((us l, ()), ())
 | 0, i, n, hd, hi', hn => by
  obtain ⟨n, rfl⟩ : ∃ n', n = n' + 1 := ⟨n - 1, by omega⟩
  have : i = l.length := by omega
  subst this
  rw [F106c3_eq, decide_eq_false (by omega), cond_false]
  rfl
 | d + 1, i, n, hd, hi', hn => by
  obtain ⟨n, rfl⟩ : ∃ n', n = n' + 1 := ⟨n - 1, by omega⟩
  have ih := rus_c3 hl d (i + 1) n (by omega) (by omega) (by omega)
  rw [List.range_succ, List.map_append] at ih
  rw [F106c3_eq, decide_eq_true (by omega), cond_true, if_pos (by omega), if_pos (by omega), if_pos (by simp only [List.length_map, List.length_range, lim]; omega), Int.toNat_natCast, wrap64_id (by omega) (by omega)]
  exact ih
theorem rus_run {l : List Int} (hl : l.length ≤ 50000) : F106.run [PK.v (Ty.int .i64).sl] [RK.own 83 (Ty.int IntKind.u64)] 4000000 (l, ()) = some ((us l, ()), ()) := by
 rw [show F106.run [PK.v (Ty.int .i64).sl] [RK.own 83 (Ty.int IntKind.u64)] 4000000 (l, ()) = _ from (F106_run _ _).trans (F106c1_eq 3999999 _)]
 exact rus_c3 hl l.length 0 3999999 (by omega) (by omega) (by omega)
theorem rplain_c9 {v : Vec} (hl : v.texts.length ≤ 50000) (ht : okT v.texts) {A : List Int} (hA : A.length ≤ 500000) : ∀ (d i n : Nat), v.texts.length - i = d → i ≤ v.texts.length → d < n → F61c9 n (i : Int) v (A ++ txB v.texts i) = some ((A ++ txB v.texts v.texts.length, ()), ())
 | 0, i, n, hd, hi', hn => by
  obtain ⟨n, rfl⟩ : ∃ n', n = n' + 1 := ⟨n - 1, by omega⟩
  have : i = v.texts.length := by omega
  subst this
  rw [F61c9_eq, decide_eq_false (by omega), cond_false]
 | d + 1, i, n, hd, hi', hn => by
  obtain ⟨n, rfl⟩ : ∃ n', n = n' + 1 := ⟨n - 1, by omega⟩
  have ih := rplain_c9 hl ht hA d (i + 1) n (by omega) (by omega) (by omega)
  have h1 := txB_len ht i
  have h2 := okT_get ht i
  have h3 := vEnc_len10 (x := (v.texts.getD i []).length) (by omega)
  rw [show txB v.texts (i + 1) = txB v.texts i ++ vEnc (v.texts.getD i []).length ++ v.texts.getD i [] from rfl, ← List.append_assoc, ← List.append_assoc] at ih
  rw [F61c9_eq, decide_eq_true (by omega), cond_true]
  simp only [if_pos (show (0 : Int) ≤ (i : Int) by omega), if_pos (show (i : Int) < (v.texts.length : Int) by omega), Int.toNat_natCast]
  rw [u64_wrap_id (z := ((v.texts.getD i []).length : Int)) (by omega) (by omega), rvenc_run (by omega), Option.bind_some]
  dsimp only
  rw [if_pos (by simp only [lim, List.length_append]; omega), if_pos (by simp only [lim, List.length_append]; omega), wrap64_id (by omega) (by omega)]
  exact ih
theorem rplain_c5 {v : Vec} (hi : v.ints.length ≤ 50000) (hl : v.texts.length ≤ 50000) (ht : okT v.texts) : ∀ (d i n : Nat), v.ints.length - i = d → i ≤ v.ints.length → d + v.texts.length + 2 < n → F61c5 n (i : Int) v (nmB v.ints i) = some ((nmB v.ints v.ints.length ++ txB v.texts v.texts.length, ()), ())
 | 0, i, n, hd, hi', hn => by
  obtain ⟨n, rfl⟩ : ∃ n', n = n' + 1 := ⟨n - 1, by omega⟩
  have : i = v.ints.length := by omega
  subst this
  have h1 := nmB_len v.ints v.ints.length
  have h9 := rplain_c9 hl ht (A := nmB v.ints v.ints.length) (by omega) v.texts.length 0 n (by omega) (by omega) (by omega)
  rw [show txB v.texts 0 = [] from rfl, List.append_nil] at h9
  rw [F61c5_eq, decide_eq_false (by omega), cond_false]
  exact h9
 | d + 1, i, n, hd, hi', hn => by
  obtain ⟨n, rfl⟩ : ∃ n', n = n' + 1 := ⟨n - 1, by omega⟩
  have ih := rplain_c5 hi hl ht d (i + 1) n (by omega) (by omega) (by omega)
  have h1 := nmB_len v.ints i
  rw [show nmB v.ints (i + 1) = nmB v.ints i ++ fx (IntKind.u64.wrap (v.ints.getD i 0)).toNat from rfl] at ih
  obtain ⟨x, x1, x2⟩ := u64_rng (v.ints.getD i 0)
  rw [x1, Int.toNat_natCast] at ih
  have h2 := fx_len x
  rw [F61c5_eq, decide_eq_true (by omega), cond_true, if_pos (by omega), if_pos (by omega), Int.toNat_natCast, x1, rfixed_run x2, Option.bind_some]
  dsimp only
  rw [if_pos (by simp only [lim]; omega), wrap64_id (by omega) (by omega)]
  exact ih
theorem rplain_run {v : Vec} (h1 : 1 ≤ v.f_Type) (h3 : v.f_Type ≤ 3) (hL : lenOK v = true) (hi : v.ints.length ≤ 50000) (hl : v.texts.length ≤ 50000) (ht : okT v.texts) : F61.run [PK.v (Ty.nm 0)] [RK.own 5 (Ty.int IntKind.u8)] 4000000 (v, ()) = some ((plE v, ()), ()) := by
 obtain ⟨l1, l2⟩ := lenOK_spec hL
 rw [show F61.run [PK.v (Ty.nm 0)] [RK.own 5 (Ty.int IntKind.u8)] 4000000 (v, ()) = _ from (F61_run _ _).trans (F61c1_eq 3999999 _)]
 unfold plE
 by_cases t1 : v.f_Type = 1
 ·rw [if_pos t1, decide_eq_true t1, cond_true, rus_run hi, Option.bind_some]
  dsimp only
  rw [show F105.run [PK.v (Ty.int IntKind.u64).sl, PK.v (Ty.int .i64)] [RK.own 5 (Ty.int IntKind.u8)] 4000000 (us v.ints, (1 : Int), ()) = _ from rpack_run (us_okU v.ints) (w := 1) (by omega) (by rw [us_len]; omega), Option.bind_some]
 ·have h5 := rplain_c5 hi hl ht v.ints.length 0 3999999 (by omega) (by omega) (by omega)
  rw [if_neg t1, decide_eq_false t1, cond_false]
  by_cases t2 : v.f_Type = 2
  ·rw [if_pos t2]
   have := (l2 (by omega)).1
   rw [show v.texts.length = 0 from this, show txB v.texts 0 = [] from rfl, List.append_nil] at h5
   exact h5
  ·rw [if_neg t2]
   have := (l1 (by omega)).1
   rw [show v.ints.length = 0 from this, show nmB v.ints 0 = [] from rfl, List.nil_append] at h5
   exact h5
/-! The bytes behind the first. -/
theorem runs_okR' {l : List Int} (hx : okL l) (hl : l.length ≤ 1000000) : okR (runsT l) ∧ (runsT l).length ≤ l.length := by
 have h := runsOk (l := l) l.length (Nat.le_refl _)
 rw [List.take_length] at h
 refine ⟨fun j hj => ?_, h.len⟩
 obtain ⟨k, k1, k2⟩ := h.val j hj
 have := okL_get hx k1
 have := h.cnt j hj
 rw [k2]
 omega
def bodyE (v : Vec) (k : Int) : List Int :=
 if k = 0 then plE v else if k = 1 then rleT (runsT v.ints) else if k = 2 then frE v.ints else if k = 3 then dlE v.ints else if k = 4 then encT v.texts else fcB v.texts v.texts.length
structure Fit (v : Vec) : Prop where
 ints : v.ints.length ≤ 10000
 texts : v.texts.length ≤ 10000
 okL : okL v.ints
 okT : okT v.texts
theorem rleT_len {l : List Run} (hok : okR l) (hl : l.length ≤ 100000) : (rleT l).length ≤ 20 * l.length + 10 := by
 have h1 := runsB_len l 0 (okR_mem hok)
 have h2 := vEnc_len10 (x := l.length) (by omega)
 rw [rleT, List.length_append]
 omega
theorem plE_len {v : Vec} (h : Fit v) : (plE v).length ≤ 50000000 := by
 have a := h.ints
 have b := h.texts
 unfold plE
 split
 ·have := packT_le (D := us v.ints) (by rw [us_len]; omega) (w := 1) (by omega)
  omega
 ·split
  ·have := nmB_len v.ints v.ints.length
   omega
  ·have := txB_len h.okT v.texts.length
   omega
theorem encT_len {l : List (List Int)} (hl : l.length ≤ 10000) (ht : okT l) : (encT l).length ≤ 60000000 := by
 have hwl := words_len l
 have h1 := vEnc_len10 (x := (words l).length) (by omega)
 have h2 := wordsB_len (W := words l) fun w hw => ht _ ((mem_words l _).1 hw)
 obtain ⟨hok, hrl⟩ := runs_okR (l := l) (by omega)
 have h3 := rleT_len hok (by omega)
 have hcw := cw_le (x := (words l).length) (by omega)
 have hcl := codes_len l
 have h4 := packT_le (D := codes l) (by omega) (w := cw (words l).length) (by omega)
 unfold encT tailT
 split
 ·simp only [List.length_append, List.length_cons]; omega
 ·simp only [List.length_append, List.length_cons]; omega
theorem bodyE_len {v : Vec} (h : Fit v) (k : Int) : (bodyE v k).length ≤ 60000000 := by
 have a := h.ints
 have b := h.texts
 unfold bodyE
 split
 ·have := plE_len h; omega
 ·split
  ·obtain ⟨r1, r2⟩ := runs_okR' h.okL (by omega)
   have := rleT_len r1 (by omega)
   omega
  ·split
   ·have := frE_len (l := v.ints) (by omega) h.okL; omega
   ·split
    ·have := dlE_len (l := v.ints) (by omega) h.okL; omega
    ·split
     ·exact encT_len b h.okT
     ·have := fcB_len h.okT v.texts.length; omega
end Go.Proofs.Tryz
