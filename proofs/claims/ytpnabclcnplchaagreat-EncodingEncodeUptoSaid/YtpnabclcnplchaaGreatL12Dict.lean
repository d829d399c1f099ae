/- Law 12, after law 10: dictionaries, encoded. -/
import Derived.Test.YtpnabclcnplchaaGreatL12Enc2
set_option linter.unusedVariables false
set_option linter.unusedSimpArgs false
namespace Go.Proofs.Tryz
open Go.Eng
theorem fndF_bound {s : List Int} : ∀ (w : List (List Int)) (i : Nat), 0 ≤ (fndF s w i).1 ∧ (fndF s w i).1 ≤ i + w.length
 | [], i => by simp [fndF]
 | x :: r, i => by
  unfold fndF
  by_cases h : x = s
  ·rw [if_pos h]; simp; omega
  ·rw [if_neg h]
   have := fndF_bound (s := s) r (i + 1)
   simp only [List.length_cons]
   omega
theorem codes_len (l : List (List Int)) : (codes l).length = l.length := by rw [codes, List.length_map]
theorem codes_get {l : List (List Int)} {i : Nat} (h : i < l.length) : ∃ v : Nat, (codes l).getD i 0 = (v : Int) ∧ v ≤ l.length := by
 have hb := fndF_bound (s := l[i]) (words l) 0
 have := words_len l
 refine ⟨(fndF l[i] (words l) 0).1.toNat, ?_, by omega⟩
 rw [codes, List.getD_eq_getElem?_getD, List.getElem?_map, List.getElem?_eq_getElem h]
 show (fndF l[i] (words l) 0).1 = _
 omega
theorem codes_okU {l : List (List Int)} (hl : l.length ≤ 1000000) : okU (codes l) := by
 intro i hi
 rw [codes_len] at hi
 obtain ⟨v, h1, h2⟩ := codes_get hi
 exact ⟨v, h1, by omega⟩
theorem runs_okR {l : List (List Int)} (hl : l.length ≤ 1000000) : okR (runsT (codes l)) ∧ (runsT (codes l)).length ≤ l.length := by
 have h := runsOk (l := codes l) (codes l).length (Nat.le_refl _)
 rw [List.take_length] at h
 have hcl := codes_len l
 refine ⟨fun j hj => ?_, by have := h.len; omega⟩
 obtain ⟨k, k1, k2⟩ := h.val j hj
 obtain ⟨v, v1, v2⟩ := codes_get (l := l) (i := k) (by omega)
 have := h.cnt j hj
 rw [k2, v1]
 omega
/-! The encoding of strings. -/
def wordsB (W : List (List Int)) : List Int := (W.map fun w => vEnc w.length ++ w).flatten
def tailT (l : List (List Int)) : List Int :=
 if (rleT (runsT (codes l))).length < (packT (codes l) (cw (words l).length)).length then 1 :: rleT (runsT (codes l)) else 0 :: packT (codes l) (cw (words l).length)
def encT (l : List (List Int)) : List Int := vEnc (words l).length ++ wordsB (words l) ++ tailT l
theorem wordsB_take {W : List (List Int)} {i : Nat} (h : i < W.length) : wordsB (W.take (i + 1)) = wordsB (W.take i) ++ (vEnc (W.getD i []).length ++ W.getD i []) := by
 rw [List.take_succ_eq_append_getElem h, wordsB, List.map_append, List.flatten_append, List.getD_eq_getElem?_getD, List.getElem?_eq_getElem h]
 simp [wordsB]
theorem wordsB_len {W : List (List Int)} (hW : ∀ w ∈ W, w.length ≤ 4096) : (wordsB W).length ≤ 4106 * W.length := by
 induction W with
 | nil => simp [wordsB]
 | cons w W ih =>
  have h1 := hW w List.mem_cons_self
  have h2 := ih (fun x hx => hW x (List.mem_cons_of_mem _ hx))
  have h3 := vEnc_len10 (x := w.length) (by omega)
  have : wordsB (w :: W) = (vEnc w.length ++ w) ++ wordsB W := rfl
  rw [this, List.length_append, List.length_append, List.length_cons]
  omega
theorem enc_c12 {l : List (List Int)} (hl : l.length ≤ 10000) {out : List Int} (ho : out.length ≤ 50000000) : ∀ (n i : Nat), l.length - i < n → i ≤ l.length →
  F56c12 n (l.length : Int) i (words l) out ((codes l).take i) ((codes l).take i) (codes l) = some ((out ++ tailT l, ()), ())
 | 0, i, h, _ => by omega
 | n + 1, i, h, hi => by
  have hcl := codes_len l
  rw [F56c12_eq]
  by_cases hlt : i < l.length
  ·obtain ⟨v, v1, v2⟩ := codes_get hlt
   simp only [decide_eq_true (show (i : Int) < (l.length : Int) by omega), cond_true, if_pos (show (0 : Int) ≤ (i : Int) by omega), if_pos (show (i : Int) < ((codes l).length : Int) by omega), Int.toNat_natCast, List.length_take]
   rw [if_pos (by simp only [lim]; omega), if_pos (by simp only [lim]; omega), v1, u64_wrap_id (by omega) (by omega), wrap64_id (by omega) (by omega), ← v1]
   have ih := enc_c12 hl ho n (i + 1) (by omega) (by omega)
   have e : (codes l).take (i + 1) = (codes l).take i ++ [(codes l).getD i 0] := by
    rw [List.take_succ_eq_append_getElem (by omega), List.getD_eq_getElem?_getD, List.getElem?_eq_getElem (by omega)]; rfl
   rw [e] at ih
   exact ih
  ·have hwl := words_len l
   have hcw := cw_le (x := (words l).length) (by omega)
   obtain ⟨hok, hrl⟩ := runs_okR (l := l) (by omega)
   have hps : psize (codes l).length (cw (words l).length) ≤ 8388608 := (size_eq (by omega) (by omega)).2
   have hrb : (rleT (runsT (codes l))).length ≤ 300000 := by
    have h1 := runsB_len (runsT (codes l)) 0 (okR_mem hok)
    have h2 := vEnc_len10 (x := (runsT (codes l)).length) (by omega)
    rw [rleT, List.length_append]
    omega
   rw [decide_eq_false (by omega), cond_false, List.take_of_length_le (by omega), width_run (by omega), Option.bind_some]
   dsimp only
   rw [pack_run (codes_okU (by omega)) (by omega) (by omega), Option.bind_some, runs_run (by omega)]
   erw [Option.bind_some]
   rw [rle_run hok (by omega), Option.bind_some]
   dsimp only
   have hpl := packT_len (codes l) (cw (words l).length)
   unfold tailT
   by_cases hlt2 : (rleT (runsT (codes l))).length < (packT (codes l) (cw (words l).length)).length
   ·rw [decide_eq_true (by omega), cond_true, if_pos hlt2, if_pos (by simp only [lim]; omega), if_pos (by simp only [lim, List.length_append, List.length_singleton]; omega), List.append_assoc]
    rfl
   ·rw [decide_eq_false (by omega), cond_false, if_neg hlt2, if_pos (by simp only [lim]; omega), if_pos (by simp only [lim, List.length_append, List.length_singleton]; omega), List.append_assoc]
    rfl
theorem enc_c4 {l : List (List Int)} (hl : l.length ≤ 10000) (hc : ∀ s ∈ l, s.length ≤ 4096) : ∀ (n i : Nat), (words l).length - i + 10100 < n → i ≤ (words l).length →
  F56c4 n ((words l).length : Int) i (words l) (codes l) (vEnc (words l).length ++ wordsB ((words l).take i)) = some ((encT l, ()), ())
 | 0, i, h, _ => by omega
 | n + 1, i, h, hi => by
  have hwl := words_len l
  have hcl := codes_len l
  have hv := vEnc_len10 (x := (words l).length) (by omega)
  have hwB : ∀ j, (wordsB ((words l).take j)).length ≤ 4106 * 10000 := fun j => by
   have := wordsB_len (W := (words l).take j) (fun w hw => hc w ((mem_words l w).1 (List.mem_of_mem_take hw)))
   rw [List.length_take] at this
   omega
  rw [F56c4_eq]
  by_cases hlt : i < (words l).length
  ·have hwi : ((words l).getD i []).length ≤ 4096 := hc _ ((mem_words l _).1 (getD_mem.2 ⟨i, hlt, rfl⟩))
   have hvi := vEnc_len10 (x := ((words l).getD i []).length) (by omega)
   have hb := hwB i
   simp only [decide_eq_true (show (i : Int) < ((words l).length : Int) by omega), cond_true, if_pos (show (0 : Int) ≤ (i : Int) by omega), if_pos (show (i : Int) < ((words l).length : Int) by omega), Int.toNat_natCast]
   rw [u64_wrap_id (by omega) (by omega), venc_run (by omega), Option.bind_some]
   dsimp only
   rw [if_pos (by simp only [lim, List.length_append]; omega), if_pos (by simp only [lim, List.length_append]; omega), wrap64_id (by omega) (by omega)]
   have ih := enc_c4 hl hc n (i + 1) (by omega) (by omega)
   rw [wordsB_take hlt] at ih
   simp only [← List.append_assoc] at ih ⊢
   exact ih
  ·rw [decide_eq_false (by omega), cond_false, List.take_of_length_le (by omega), hcl]
   have hb := hwB (words l).length
   rw [List.take_length] at hb
   have := enc_c12 hl (out := vEnc (words l).length ++ wordsB (words l)) (by rw [List.length_append]; omega) n 0 (by omega) (by omega)
   exact this
theorem enc_run {l : List (List Int)} (hl : l.length ≤ 10000) (hc : ∀ s ∈ l, s.length ≤ 4096) : F56.run [PK.v Ty.str.sl] [RK.own 5 (Ty.int IntKind.u8)] 4000000 (l, ()) = some ((encT l, ()), ()) := by
 have hwl := words_len l
 rw [show F56.run [PK.v Ty.str.sl] [RK.own 5 (Ty.int IntKind.u8)] 4000000 (l, ()) = _ from (F56_run _ _).trans (F56c1_eq 3999999 _), build_run (by omega), Option.bind_some]
 dsimp only
 rw [u64_wrap_id (by omega) (by omega), venc_run (by omega), Option.bind_some]
 dsimp only
 have := enc_c4 hl hc 3999999 0 (by omega) (by omega)
 rw [List.take_zero, show wordsB [] = [] from rfl, List.append_nil] at this
 exact this
/-! The reference's encoding. -/
def partsW (W : List (List Int)) : List (List Int) := W.map fun w => vEnc w.length ++ w
theorem renc_c10 {l : List (List Int)} (hl : l.length ≤ 10000) {out : List (List Int)} (ho : out.length ≤ 20000) (hof : out.flatten.length ≤ 50000000) : ∀ (n i : Nat), l.length - i < n → i ≤ l.length →
  F66c10 n i (words l) (codes l) out ((codes l).take i) ((codes l).take i) = some ((out.flatten ++ tailT l, ()), ())
 | 0, i, h, _ => by omega
 | n + 1, i, h, hi => by
  have hcl := codes_len l
  rw [F66c10_eq]
  by_cases hlt : i < l.length
  ·obtain ⟨v, v1, v2⟩ := codes_get hlt
   simp only [decide_eq_true (show (i : Int) < ((codes l).length : Int) by omega), cond_true, if_pos (show (0 : Int) ≤ (i : Int) by omega), if_pos (show (i : Int) < ((codes l).length : Int) by omega), Int.toNat_natCast, List.length_take]
   rw [if_pos (by simp only [lim]; omega), if_pos (by simp only [lim]; omega), v1, u64_wrap_id (by omega) (by omega), wrap64_id (by omega) (by omega), ← v1]
   have ih := renc_c10 hl ho hof n (i + 1) (by omega) (by omega)
   have e : (codes l).take (i + 1) = (codes l).take i ++ [(codes l).getD i 0] := by
    rw [List.take_succ_eq_append_getElem (by omega), List.getD_eq_getElem?_getD, List.getElem?_eq_getElem (by omega)]; rfl
   rw [e] at ih
   exact ih
  ·have hwl := words_len l
   have hcw := cw_le (x := (words l).length) (by omega)
   obtain ⟨hok, hrl⟩ := runs_okR (l := l) (by omega)
   have hps : psize (codes l).length (cw (words l).length) ≤ 30000 := by
    have : (codes l).length * cw (words l).length ≤ 10000 * 22 := Nat.mul_le_mul (by omega) (by omega)
    unfold psize
    omega
   have hrb : (rleT (runsT (codes l))).length ≤ 300000 := by
    have h1 := runsB_len (runsT (codes l)) 0 (okR_mem hok)
    have h2 := vEnc_len10 (x := (runsT (codes l)).length) (by omega)
    rw [rleT, List.length_append]
    omega
   rw [decide_eq_false (by omega), cond_false, List.take_of_length_le (by omega), rwidth_run (by omega), Option.bind_some]
   dsimp only
   rw [rpack_run (codes_okU (by omega)) (by omega) (by omega), Option.bind_some, rruns_run (by omega)]
   erw [Option.bind_some]
   rw [rrle_run hok (by omega), Option.bind_some]
   dsimp only
   have hpl := packT_len (codes l) (cw (words l).length)
   have fin : ∀ (b : Int) (x : List Int), x.length ≤ 400000 → F110.run [PK.v (Ty.int IntKind.u8).sl.sl] [RK.own 5 (Ty.int IntKind.u8)] 400000000 (out ++ [[b]] ++ [x], ()) = some ((out.flatten ++ b :: x, ()), ()) := by
    intro b x hx
    rw [concat_run (by simp only [List.length_append, List.length_singleton]; omega) (by simp only [List.flatten_append, List.length_append, List.flatten_cons, List.flatten_nil, List.append_nil, List.length_singleton]; omega)]
    simp only [List.flatten_append, List.flatten_cons, List.flatten_nil, List.append_nil, List.append_assoc]
    rfl
   unfold tailT
   by_cases hlt2 : (rleT (runsT (codes l))).length < (packT (codes l) (cw (words l).length)).length
   ·rw [decide_eq_true (by omega), cond_true, if_pos hlt2, if_pos (by simp only [lim]; omega), if_pos (by simp only [lim, List.length_append, List.length_singleton]; omega), fin _ _ (by omega)]
    rfl
   ·rw [decide_eq_false (by omega), cond_false, if_neg hlt2, if_pos (by simp only [lim]; omega), if_pos (by simp only [lim, List.length_append, List.length_singleton]; omega), fin _ _ (by omega)]
    rfl
theorem partsW_flat (W : List (List Int)) : (partsW W).flatten = wordsB W := rfl
theorem renc_c4 {l : List (List Int)} (hl : l.length ≤ 10000) (hc : ∀ s ∈ l, s.length ≤ 4096) : ∀ (n i : Nat), (words l).length - i + 10100 < n → i ≤ (words l).length →
  F66c4 n i (words l) (codes l) (vEnc (words l).length :: partsW ((words l).take i)) = some ((encT l, ()), ())
 | 0, i, h, _ => by omega
 | n + 1, i, h, hi => by
  have hwl := words_len l
  have hv := vEnc_len10 (x := (words l).length) (by omega)
  rw [F66c4_eq]
  by_cases hlt : i < (words l).length
  ·have hwi : ((words l).getD i []).length ≤ 4096 := hc _ ((mem_words l _).1 (getD_mem.2 ⟨i, hlt, rfl⟩))
   simp only [decide_eq_true (show (i : Int) < ((words l).length : Int) by omega), cond_true, if_pos (show (0 : Int) ≤ (i : Int) by omega), if_pos (show (i : Int) < ((words l).length : Int) by omega), Int.toNat_natCast]
   rw [text_run (by omega), Option.bind_some]
   dsimp only
   rw [if_pos (by simp only [lim, partsW, List.length_cons, List.length_map, List.length_take]; omega), wrap64_id (by omega) (by omega)]
   have ih := renc_c4 hl hc n (i + 1) (by omega) (by omega)
   have e : partsW ((words l).take (i + 1)) = partsW ((words l).take i) ++ [vEnc ((words l).getD i []).length ++ (words l).getD i []] := by
    rw [List.take_succ_eq_append_getElem hlt, partsW, List.map_append, List.getD_eq_getElem?_getD, List.getElem?_eq_getElem hlt]; rfl
   rw [e] at ih
   exact ih
  ·have hb := wordsB_len (W := words l) (fun w hw => hc w ((mem_words l w).1 hw))
   rw [decide_eq_false (by omega), cond_false, List.take_of_length_le (by omega)]
   have := renc_c10 hl (out := vEnc (words l).length :: partsW (words l)) (by simp only [partsW, List.length_cons, List.length_map]; omega) (by rw [List.flatten_cons, partsW_flat, List.length_append]; omega) n 0 (by omega) (by omega)
   rw [List.flatten_cons, partsW_flat] at this
   exact this
theorem renc_run {l : List (List Int)} (hl : l.length ≤ 10000) (hc : ∀ s ∈ l, s.length ≤ 4096) : F66.run [PK.v Ty.str.sl] [RK.own 5 (Ty.int IntKind.u8)] 4000000 (l, ()) = some ((encT l, ()), ()) := by
 have hwl := words_len l
 rw [show F66.run [PK.v Ty.str.sl] [RK.own 5 (Ty.int IntKind.u8)] 4000000 (l, ()) = _ from (F66_run _ _).trans (F66c1_eq 3999999 _), refbuild_run hl, Option.bind_some]
 dsimp only
 rw [u64_wrap_id (by omega) (by omega), rvenc_run (by omega), Option.bind_some]
 dsimp only
 exact renc_c4 hl hc 3999999 0 (by omega) (by omega)
end Go.Proofs.Tryz
