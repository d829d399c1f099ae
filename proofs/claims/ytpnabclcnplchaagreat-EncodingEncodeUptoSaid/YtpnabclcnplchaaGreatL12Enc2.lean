/- Law 12: differences, common heads and plain values, encoded. -/
import Derived.Test.YtpnabclcnplchaaGreatL12Fr
set_option linter.unusedVariables false
set_option linter.unusedSimpArgs false
namespace Go.Proofs.Tryz
open Go.Eng
def hzs (l : List Int) : List Int := (l.map fun x => vEnc (zz x)).flatten
theorem hzs_take {l : List Int} {i : Nat} (h : i < l.length) : hzs (l.take (i + 1)) = hzs (l.take i) ++ vEnc (zz (l.getD i 0)) := by
 unfold hzs
 rw [List.take_succ_eq_append_getElem h, List.map_append, List.flatten_append, List.getD_eq_getElem?_getD, List.getElem?_eq_getElem h]
 simp
theorem hzs_len {l : List Int} (hx : okL l) : (hzs l).length ≤ 10 * l.length := by
 induction l with
 | nil => simp [hzs]
 | cons a t ih =>
  have h1 := vEnc_len10 (zz_lt (hx a List.mem_cons_self).1 (hx a List.mem_cons_self).2)
  have h2 := ih fun x h => hx x (List.mem_cons_of_mem _ h)
  unfold hzs at h2 ⊢
  rw [List.map_cons, List.flatten_cons, List.length_append, List.length_cons]
  omega
theorem okL_get {l : List Int} (hx : okL l) {i : Nat} (h : i < l.length) : -9223372036854775808 ≤ l.getD i 0 ∧ l.getD i 0 < 9223372036854775808 :=
 hx _ (by rw [List.getD_eq_getElem?_getD, List.getElem?_eq_getElem h]; exact List.getElem_mem _)
theorem okL_take {l : List Int} (hx : okL l) (i : Nat) : okL (l.take i) := fun x h => hx x (List.mem_of_mem_take h)
theorem form_c3 {r hs : List Int} {k : Int} (hr : r.length ≤ 50000) (hrx : okL r) (hl : hs.length ≤ 1000) (hx : okL hs) : ∀ (d i n : Nat), hs.length - i = d → i ≤ hs.length → d < n →
  F99c3 n r hs (hs.length : Int) (i : Int) (k :: hzs (hs.take i)) = some ((k :: (hzs hs ++ frE r), ()), ())
 | d, i, n, hd, hi', hn => by
  obtain ⟨n, rfl⟩ : ∃ n', n = n' + 1 := ⟨n - 1, by omega⟩
  have h1 := hzs_len (okL_take hx i)
  rw [List.length_take, Nat.min_eq_left hi'] at h1
  match d, hd with
  | 0, hd =>
   have : i = hs.length := by omega
   subst this
   have h2 := frE_len hr hrx
   rw [F99c3_eq, decide_eq_false (by omega), cond_false, frame_run hr hrx, Option.bind_some]
   dsimp only
   rw [if_pos (by simp only [lim, List.length_cons]; omega), List.take_length]
   rfl
  | d + 1, hd =>
   have hlt : i < hs.length := by omega
   have hg := okL_get hx hlt
   have hz := zz_lt hg.1 hg.2
   have h2 := vEnc_len10 hz
   have ih := form_c3 (k := k) hr hrx hl hx d (i + 1) n (by omega) (by omega) (by omega)
   rw [hzs_take hlt] at ih
   rw [F99c3_eq, decide_eq_true (by omega), cond_true, if_pos (by omega), if_pos (by omega), Int.toNat_natCast, zig_run hg.1 hg.2, Option.bind_some]
   dsimp only
   rw [venc_run hz, Option.bind_some]
   dsimp only
   rw [if_pos (by simp only [lim, List.length_cons]; omega), wrap64_id (by omega) (by omega)]
   exact ih
theorem form_run {r hs : List Int} {k : Int} (hr : r.length ≤ 50000) (hrx : okL r) (hl : hs.length ≤ 1000) (hx : okL hs) :
  F99.run [PK.v (Ty.int IntKind.u8), PK.v (Ty.int .i64).sl, PK.v (Ty.int .i64).sl] [RK.own 5 (Ty.int IntKind.u8)] 4000000 (k, hs, r, ()) = some ((k :: (hzs hs ++ frE r), ()), ()) := by
 rw [show F99.run [PK.v (Ty.int IntKind.u8), PK.v (Ty.int .i64).sl, PK.v (Ty.int .i64).sl] [RK.own 5 (Ty.int IntKind.u8)] 4000000 (k, hs, r, ()) = _ from (F99_run _ _ _ _).trans (F99c1_eq 3999999 _ _ _)]
 exact form_c3 hr hrx hl hx hs.length 0 3999999 (by omega) (by omega) (by omega)
def df1 (l : List Int) : List Int := 1 :: (hzs (l.take 1) ++ frE (dl l))
def df2 (l : List Int) : List Int := 2 :: (hzs [l.getD 0 0, (dl l).getD 0 0] ++ frE (dl (dl l)))
def dlE (l : List Int) : List Int := if l.length < 2 then df1 l else if (df2 l).length < (df1 l).length then df2 l else df1 l
theorem getD0 {l : List Int} (h : 0 < l.length) : l.take 1 = [l.getD 0 0] := by
 cases l with
 | nil => simp at h
 | cons a t => rfl
theorem delta_run {l : List Int} (hl : l.length ≤ 50000) (hx : okL l) : F54.run [PK.v (Ty.int .i64).sl] [RK.own 5 (Ty.int IntKind.u8)] 4000000 (l, ()) = some ((dlE l, ()), ()) := by
 have hm : imin (1 : Int) (l.length : Int) = ((min 1 l.length : Nat) : Int) := by
  unfold imin
  split <;> omega
 have hd1 := dl_len l
 have ht : List.drop (Int.toNat (0 : Int)) (List.take (min 1 l.length) l) = l.take 1 := by
  show List.drop 0 _ = _
  rw [List.drop_zero]
  rcases Nat.eq_zero_or_pos l.length with h | h
  ·rw [List.eq_nil_of_length_eq_zero h]; rfl
  ·rw [Nat.min_eq_left h]
 have h1 : F99.run [PK.v (Ty.int IntKind.u8), PK.v (Ty.int .i64).sl, PK.v (Ty.int .i64).sl] [RK.own 5 (Ty.int IntKind.u8)] 4000000 ((1 : Int), l.take 1, dl l, ()) = some ((df1 l, ()), ()) :=
  form_run (by omega) (dl_ok l) (by rw [List.length_take]; omega) (okL_take hx 1)
 rw [show F54.run [PK.v (Ty.int .i64).sl] [RK.own 5 (Ty.int IntKind.u8)] 4000000 (l, ()) = _ from (F54_run _ _).trans (F54c1_eq 3999999 _), decide_eq_false (by omega), cond_false, dl_run (by omega), Option.bind_some, hm, if_pos (by omega), if_pos (by omega)]
 dsimp only
 rw [Int.toNat_natCast, ht, h1, Option.bind_some]
 dsimp only
 unfold dlE
 by_cases h2 : l.length < 2
 ·rw [if_pos h2, decide_eq_true (by omega), cond_true]
 ·have hg := okL_get hx (i := 0) (by omega)
  have hg2 := okL_get (dl_ok l) (i := 0) (by omega)
  have hd2 := dl_len (dl l)
  have h3 : F99.run [PK.v (Ty.int IntKind.u8), PK.v (Ty.int .i64).sl, PK.v (Ty.int .i64).sl] [RK.own 5 (Ty.int IntKind.u8)] 4000000 ((2 : Int), [l.getD 0 0, (dl l).getD 0 0], dl (dl l), ()) = some ((df2 l, ()), ()) :=
   form_run (by omega) (dl_ok _) (by simp) (fun x hx => by
    rcases List.mem_cons.1 hx with rfl | hx
    ·exact hg
    ·rcases List.mem_cons.1 hx with rfl | hx
     ·exact hg2
     ·cases hx)
  rw [if_neg h2, decide_eq_false (by omega), cond_false, if_pos (by omega), if_pos (by omega), dl_run (by omega), Option.bind_some]
  dsimp only
  rw [show Int.toNat (0 : Int) = 0 from rfl, h3, Option.bind_some]
  dsimp only
  by_cases h : (df2 l).length < (df1 l).length
  ·rw [if_pos h, decide_eq_true (by omega), cond_true]
  ·rw [if_neg h, decide_eq_false (by omega), cond_false]
theorem df1_len {l : List Int} (hl : l.length ≤ 50000) (hx : okL l) : (df1 l).length ≤ 1500100 := by
 have h1 := hzs_len (okL_take hx 1)
 rw [List.length_take] at h1
 have h2 := frE_len (l := dl l) (by rw [dl_len]; omega) (dl_ok l)
 unfold df1
 rw [List.length_cons, List.length_append]
 omega
theorem dlE_len {l : List Int} (hl : l.length ≤ 50000) (hx : okL l) : (dlE l).length ≤ 1500100 := by
 have := df1_len hl hx
 unfold dlE
 split
 ·exact this
 ·split
  ·omega
  ·exact this
/-! The reference. -/
theorem rform1_run {l : List Int} (hl : l.length ≤ 50000) (hx : okL l) : F113.run [PK.v (Ty.int .i64).sl, PK.v (Ty.int .i64)] [RK.own 5 (Ty.int IntKind.u8)] 4000000 (l, (1 : Int), ()) = some ((df1 l, ()), ()) := by
 have hd1 := dl_len l
 have h2 := frE_len (l := dl l) (by omega) (dl_ok l)
 rw [show F113.run [PK.v (Ty.int .i64).sl, PK.v (Ty.int .i64)] [RK.own 5 (Ty.int IntKind.u8)] 4000000 (l, (1 : Int), ()) = _ from (F113_run _ _ _).trans (F113c1_eq 3999999 _ _), show IntKind.u8.wrap 1 = 1 from rfl, F113c4_eq (n := 3999998), decide_eq_true (by omega), cond_true]
 by_cases h0 : 0 < l.length
 ·have hg := okL_get hx (i := 0) h0
  have hz := zz_lt hg.1 hg.2
  have hv := vEnc_len10 hz
  rw [decide_eq_true (by omega), cond_true, F113c6_eq (n := 3999997), if_pos (by omega), show Int.toNat (0 : Int) = 0 from rfl, rzig_run hg.1 hg.2, Option.bind_some]
  dsimp only
  rw [rvenc_run hz, Option.bind_some]
  dsimp only
  rw [if_pos (by simp only [lim, List.length_singleton]; omega), rdl_run (by omega), Option.bind_some]
  dsimp only
  rw [show IntKind.i64.wrap (0 + 1) = 1 from rfl, F113c4'_eq (n := 3999996), decide_eq_false (by omega), cond_false, rframe_run (by omega) (dl_ok l), Option.bind_some]
  dsimp only
  rw [if_pos (by simp only [lim, List.length_append, List.length_singleton]; omega), df1, getD0 h0]
  simp [hzs]
 ·have hl0 : l = [] := List.eq_nil_of_length_eq_zero (by omega)
  subst hl0
  rw [decide_eq_false (by simp), cond_false, rframe_run (by simp) hx, Option.bind_some]
  dsimp only
  rw [if_pos (by have : dl [] = [] := rfl; rw [this] at h2; simp only [lim, List.length_singleton]; omega)]
  rfl
theorem rform2_run {l : List Int} (hl : l.length ≤ 50000) (hx : okL l) (h0 : 2 ≤ l.length) : F113.run [PK.v (Ty.int .i64).sl, PK.v (Ty.int .i64)] [RK.own 5 (Ty.int IntKind.u8)] 4000000 (l, (2 : Int), ()) = some ((df2 l, ()), ()) := by
 have hd1 := dl_len l
 have hd2 := dl_len (dl l)
 have h2 := frE_len (l := dl (dl l)) (by omega) (dl_ok _)
 have hg := okL_get hx (i := 0) (by omega)
 have hz := zz_lt hg.1 hg.2
 have hv := vEnc_len10 hz
 have hg' := okL_get (dl_ok l) (i := 0) (by omega)
 have hz' := zz_lt hg'.1 hg'.2
 have hv' := vEnc_len10 hz'
 rw [show F113.run [PK.v (Ty.int .i64).sl, PK.v (Ty.int .i64)] [RK.own 5 (Ty.int IntKind.u8)] 4000000 (l, (2 : Int), ()) = _ from (F113_run _ _ _).trans (F113c1_eq 3999999 _ _), show IntKind.u8.wrap 2 = 2 from rfl, F113c4_eq (n := 3999998), decide_eq_true (by omega), cond_true]
 rw [decide_eq_true (by omega), cond_true, F113c6_eq (n := 3999997), if_pos (by omega), show Int.toNat (0 : Int) = 0 from rfl, rzig_run hg.1 hg.2, Option.bind_some]
 dsimp only
 rw [rvenc_run hz, Option.bind_some]
 dsimp only
 rw [if_pos (by simp only [lim, List.length_singleton]; omega), rdl_run (by omega), Option.bind_some]
 dsimp only
 rw [show IntKind.i64.wrap (0 + 1) = 1 from rfl, F113c4'_eq (n := 3999996), decide_eq_true (by omega), cond_true, decide_eq_true (by omega), cond_true, F113c6'_eq (n := 3999995), if_pos (by omega), show Int.toNat (0 : Int) = 0 from rfl, rzig_run hg'.1 hg'.2, Option.bind_some]
 dsimp only
 rw [rvenc_run hz', Option.bind_some]
 dsimp only
 rw [if_pos (by simp only [lim, List.length_append, List.length_singleton]; omega), rdl_run (by omega), Option.bind_some]
 dsimp only
 rw [show IntKind.i64.wrap (1 + 1) = 2 from rfl, F113c4'_eq (n := 3999994), decide_eq_false (by omega), cond_false, rframe_run (by omega) (dl_ok _), Option.bind_some]
 dsimp only
 rw [if_pos (by simp only [lim, List.length_append, List.length_singleton]; omega), df2]
 simp [hzs]
theorem rdelta_run {l : List Int} (hl : l.length ≤ 50000) (hx : okL l) : F65.run [PK.v (Ty.int .i64).sl] [RK.own 5 (Ty.int IntKind.u8)] 4000000 (l, ()) = some ((dlE l, ()), ()) := by
 rw [show F65.run [PK.v (Ty.int .i64).sl] [RK.own 5 (Ty.int IntKind.u8)] 4000000 (l, ()) = _ from (F65_run _ _).trans (F65c1_eq 3999999 _), decide_eq_false (by omega), cond_false, rform1_run hl hx, Option.bind_some]
 dsimp only
 unfold dlE
 by_cases h2 : l.length < 2
 ·rw [if_pos h2, decide_eq_true (by omega), cond_true]
 ·rw [if_neg h2, decide_eq_false (by omega), cond_false, rform2_run hl hx (by omega), Option.bind_some]
  dsimp only
  by_cases h : (df2 l).length < (df1 l).length
  ·rw [if_pos h, decide_eq_true (by omega), cond_true]
  ·rw [if_neg h, decide_eq_false (by omega), cond_false]
/-! Common heads. -/
def cpf : List Int → List Int → Nat
 | a :: s, b :: t => if a = b then cpf s t + 1 else 0
 | _, _ => 0
theorem cpf_le : ∀ (s t : List Int), cpf s t ≤ s.length ∧ cpf s t ≤ t.length
 | [], _ => by simp [cpf]
 | _ :: _, [] => by simp [cpf]
 | a :: s, b :: t => by
  have := cpf_le s t
  unfold cpf
  split <;> simp <;> omega
theorem cpf_at : ∀ (s t : List Int) (i : Nat), (∀ j, j < i → s.getD j 0 = t.getD j 0) → i ≤ s.length → i ≤ t.length → (i < s.length → i < t.length → s.getD i 0 ≠ t.getD i 0) → cpf s t = i
 | [], t, i, _, h, _, _ => by
               have : i = 0 := by simpa using h
               subst this; cases t <;> rfl
 | a :: s, [], i, _, _, h, _ => by
                  have : i = 0 := by simpa using h
                  subst this; rfl
 | a :: s, b :: t, 0, _, _, _, h => by
  have : a ≠ b := h (by simp) (by simp)
  rw [cpf, if_neg this]
 | a :: s, b :: t, i + 1, h1, h2, h3, h4 => by
  have : a = b := h1 0 (by omega)
  rw [cpf, if_pos this, cpf_at s t i (fun j hj => h1 (j + 1) (by omega)) (by simpa using h2) (by simpa using h3) (fun h5 h6 => h4 (by simpa using h5) (by simpa using h6))]
theorem cpf_c2 {s t : List Int} (hs : s.length ≤ 1000000) : ∀ (n i : Nat), s.length - i < n → i ≤ s.length → i ≤ t.length → (∀ j, j < i → s.getD j 0 = t.getD j 0) → F156c2 n s t (i : Int) = some ((((cpf s t : Nat) : Int), ()), ())
 | 0, i, h, _, _, _ => by omega
 | n + 1, i, h, h1, h2, he => by
  rw [F156c2_eq]
  by_cases a : i < s.length
  ·rw [decide_eq_true (by omega), cond_true]
   by_cases b : i < t.length
   ·rw [decide_eq_true (by omega), cond_true]
    simp only [if_pos (show (0 : Int) ≤ (i : Int) by omega), if_pos (show (i : Int) < (s.length : Int) by omega), if_pos (show (i : Int) < (t.length : Int) by omega), Int.toNat_natCast]
    by_cases c : s.getD i 0 = t.getD i 0
    ·rw [decide_eq_true c, cond_true, wrap64_id (by omega) (by omega)]
     exact cpf_c2 hs n (i + 1) (by omega) (by omega) (by omega) fun j hj => by
      rcases Nat.lt_or_ge j i with h' | h'
      ·exact he j h'
      ·rw [show j = i by omega]; exact c
    ·rw [decide_eq_false c, cond_false, cpf_at s t i he h1 h2 (fun _ _ => c)]
   ·rw [decide_eq_false (by omega), cond_false, cpf_at s t i he h1 h2 (fun _ h => absurd h b)]
  ·rw [decide_eq_false (by omega), cond_false, cpf_at s t i he h1 h2 (fun h => absurd h a)]
theorem cpf_run {s t : List Int} (hs : s.length ≤ 1000000) : F156.run [PK.v Ty.str, PK.v Ty.str] [RK.v (Ty.int .i64)] 4000000 (s, t, ()) = some ((((cpf s t : Nat) : Int), ()), ()) := by
 rw [show F156.run [PK.v Ty.str, PK.v Ty.str] [RK.v (Ty.int .i64)] 4000000 (s, t, ()) = _ from F156_run _ _ _]
 exact cpf_c2 hs 4000000 0 (by omega) (by omega) (by omega) (fun j hj => by omega)
def shr (l : List (List Int)) (i : Nat) : Nat := if i % 16 = 0 then 0 else cpf (l.getD (i - 1) []) (l.getD i [])
theorem shr_le (l : List (List Int)) (i : Nat) : shr l i ≤ (l.getD i []).length := by
 unfold shr
 split
 ·omega
 ·exact (cpf_le _ _).2
def okT (l : List (List Int)) : Prop := ∀ s ∈ l, s.length ≤ 4096
theorem okT_get {l : List (List Int)} (h : okT l) (i : Nat) : (l.getD i []).length ≤ 4096 := by
 rw [List.getD_eq_getElem?_getD]
 rcases Nat.lt_or_ge i l.length with h' | h'
 ·rw [List.getElem?_eq_getElem h']; exact h _ (List.getElem_mem _)
 ·rw [List.getElem?_eq_none h']; simp
theorem shared_run {l : List (List Int)} {i : Nat} (hl : l.length ≤ 1000000) (ht : okT l) (hi : i < l.length) : F103.run [PK.v Ty.str.sl, PK.v (Ty.int .i64)] [RK.v (Ty.int .i64)] 4000000 (l, (i : Int), ()) = some ((((shr l i : Nat) : Int), ()), ()) := by
 rw [show F103.run [PK.v Ty.str.sl, PK.v (Ty.int .i64)] [RK.v (Ty.int .i64)] 4000000 (l, (i : Int), ()) = _ from F103_run _ _ _]
 have hm : ((i : Int)).tmod 16 = ((i % 16 : Nat) : Int) := by rw [Int.tmod_eq_emod_of_nonneg (by omega)]; omega
 unfold shr
 rw [hm]
 by_cases h : i % 16 = 0
 ·rw [if_pos h, decide_eq_true (by omega), cond_true]; rfl
 ·have hc := okT_get ht (i - 1)
  rw [if_neg h, decide_eq_false (by omega), cond_false, wrap64_id (by omega) (by omega), show ((i : Int) - 1) = ((i - 1 : Nat) : Int) by omega, if_pos (by omega), if_pos (by omega), if_pos (by omega), if_pos (by omega), Int.toNat_natCast, Int.toNat_natCast, cpf_run (by omega)]
  rfl
def fcB (l : List (List Int)) : Nat → List Int
 | 0 => []
 | i + 1 => fcB l i ++ vEnc (shr l i) ++ vEnc ((l.getD i []).length - shr l i) ++ (l.getD i []).drop (shr l i)
theorem fcB_len {l : List (List Int)} (ht : okT l) : ∀ i, (fcB l i).length ≤ 4116 * i
 | 0 => by simp [fcB]
 | i + 1 => by
  have h1 := fcB_len ht i
  have h2 := okT_get ht i
  have h3 := shr_le l i
  have h4 := vEnc_len10 (x := shr l i) (by omega)
  have h5 := vEnc_len10 (x := (l.getD i []).length - shr l i) (by omega)
  unfold fcB
  simp only [List.length_append, List.length_drop]
  omega
theorem front_c3 {l : List (List Int)} (hl : l.length ≤ 50000) (ht : okT l) : ∀ (d i n : Nat), l.length - i = d → i ≤ l.length → d < n → F58c3 n l l (l.length : Int) (i : Int) (fcB l i) = some ((fcB l l.length, ()), ())
 | 0, i, n, hd, hi', hn => by
  obtain ⟨n, rfl⟩ : ∃ n', n = n' + 1 := ⟨n - 1, by omega⟩
  have : i = l.length := by omega
  subst this
  rw [F58c3_eq, decide_eq_false (by omega), cond_false]
 | d + 1, i, n, hd, hi', hn => by
  obtain ⟨n, rfl⟩ : ∃ n', n = n' + 1 := ⟨n - 1, by omega⟩
  have hlt : i < l.length := by omega
  have h1 := fcB_len ht i
  have h2 := okT_get ht i
  have h3 := shr_le l i
  have h4 := vEnc_len10 (x := shr l i) (by omega)
  have h5 := vEnc_len10 (x := (l.getD i []).length - shr l i) (by omega)
  have ih := front_c3 hl ht d (i + 1) n (by omega) (by omega) (by omega)
  rw [show fcB l (i + 1) = fcB l i ++ vEnc (shr l i) ++ vEnc ((l.getD i []).length - shr l i) ++ (l.getD i []).drop (shr l i) from rfl] at ih
  rw [F58c3_eq, decide_eq_true (by omega), cond_true, if_pos (by omega), if_pos (by omega), shared_run (by omega) ht hlt, Option.bind_some]
  dsimp only
  rw [u64_wrap_id (z := ((shr l i : Nat) : Int)) (by omega) (by omega), venc_run (by omega), Option.bind_some]
  dsimp only
  rw [if_pos (by simp only [lim]; omega), Int.toNat_natCast, wrap64_id (z := ((l.getD i []).length : Int) - ((shr l i : Nat) : Int)) (by omega) (by omega), show (((l.getD i []).length : Int) - ((shr l i : Nat) : Int)) = (((l.getD i []).length - shr l i : Nat) : Int) by omega, u64_wrap_id (z := (((l.getD i []).length - shr l i : Nat) : Int)) (by omega) (by omega), venc_run (by omega), Option.bind_some]
  dsimp only
  rw [if_pos (by simp only [lim, List.length_append]; omega), if_pos (show (0 : Int) ≤ ((shr l i : Nat) : Int) by omega), if_pos (show ((shr l i : Nat) : Int) ≤ ((l.getD i []).length : Int) by omega), if_pos (by omega), Int.toNat_natCast, Int.toNat_natCast, List.take_length, if_pos (by simp only [lim, List.length_append, List.length_drop]; omega), wrap64_id (by omega) (by omega)]
  exact ih
theorem front_run {l : List (List Int)} (hl : l.length ≤ 50000) (ht : okT l) : F58.run [PK.v Ty.str.sl] [RK.own 5 (Ty.int IntKind.u8)] 4000000 (l, ()) = some ((fcB l l.length, ()), ()) := by
 rw [show F58.run [PK.v Ty.str.sl] [RK.own 5 (Ty.int IntKind.u8)] 4000000 (l, ()) = _ from (F58_run _ _).trans (F58c1_eq 3999999 _)]
 exact front_c3 hl ht l.length 0 3999999 (by omega) (by omega) (by omega)
end Go.Proofs.Tryz
