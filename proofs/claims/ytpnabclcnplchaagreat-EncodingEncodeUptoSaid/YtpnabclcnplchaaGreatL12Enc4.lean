/- Law 12: Encode, Costs and Choose, of the program and of the reference. -/
import Derived.Test.YtpnabclcnplchaaGreatL12Enc3
set_option linter.unusedVariables false
set_option linter.unusedSimpArgs false
namespace Go.Proofs.Tryz
open Go.Eng
abbrev bwP : List PK := [PK.bw (Ty.nm 0)]
abbrev byR : List RK := [RK.own 5 (Ty.int IntKind.u8)]
theorem e1_run {v : Vec} (h : Fit v) : F48.run [PK.bw (Ty.nm 0)] [RK.own 5 (Ty.int IntKind.u8)] 4000000 (v, ()) = some ((rleT (runsT v.ints), ()), (v, ())) := by
 obtain ⟨r1, r2⟩ := runs_okR' h.okL (by have := h.ints; omega)
 have := h.ints
 rw [show F48.run [PK.bw (Ty.nm 0)] [RK.own 5 (Ty.int IntKind.u8)] 4000000 (v, ()) = _ from (F48_run _ _).trans (F48c1_eq 3999999 _), runs_run (by omega), Option.bind_some]
 dsimp only
 rw [rle_run r1 (by omega), Option.bind_some]
theorem e2_run {v : Vec} (h : Fit v) : F51.run [PK.bw (Ty.nm 0)] [RK.own 5 (Ty.int IntKind.u8)] 4000000 (v, ()) = some ((frE v.ints, ()), (v, ())) := by
 have := h.ints
 rw [show F51.run [PK.bw (Ty.nm 0)] [RK.own 5 (Ty.int IntKind.u8)] 4000000 (v, ()) = _ from (F51_run _ _).trans (F51c1_eq 3999999 _), frame_run (by omega) h.okL, Option.bind_some]
theorem e3_run {v : Vec} (h : Fit v) : F53.run [PK.bw (Ty.nm 0)] [RK.own 5 (Ty.int IntKind.u8)] 4000000 (v, ()) = some ((dlE v.ints, ()), (v, ())) := by
 have := h.ints
 rw [show F53.run [PK.bw (Ty.nm 0)] [RK.own 5 (Ty.int IntKind.u8)] 4000000 (v, ()) = _ from (F53_run _ _).trans (F53c1_eq 3999999 _), delta_run (by omega) h.okL, Option.bind_some]
theorem e4_run {v : Vec} (h : Fit v) : F55.run [PK.bw (Ty.nm 0)] [RK.own 5 (Ty.int IntKind.u8)] 4000000 (v, ()) = some ((encT v.texts, ()), (v, ())) := by
 have := h.texts
 rw [show F55.run [PK.bw (Ty.nm 0)] [RK.own 5 (Ty.int IntKind.u8)] 4000000 (v, ()) = _ from (F55_run _ _).trans (F55c1_eq 3999999 _), enc_run (by omega) h.okT, Option.bind_some]
theorem e5_run {v : Vec} (h : Fit v) : F57.run [PK.bw (Ty.nm 0)] [RK.own 5 (Ty.int IntKind.u8)] 4000000 (v, ()) = some ((fcB v.texts v.texts.length, ()), (v, ())) := by
 have := h.texts
 rw [show F57.run [PK.bw (Ty.nm 0)] [RK.own 5 (Ty.int IntKind.u8)] 4000000 (v, ()) = _ from (F57_run _ _).trans (F57c1_eq 3999999 _), front_run (by omega) h.okT, Option.bind_some]
theorem e6_run {v : Vec} (h : Fit v) : F59.run [PK.bw (Ty.nm 0)] [RK.own 5 (Ty.int IntKind.u8)] 4000000 (v, ()) = some ((plE v, ()), (v, ())) := by
 have := h.texts
 have := h.ints
 rw [show F59.run [PK.bw (Ty.nm 0)] [RK.own 5 (Ty.int IntKind.u8)] 4000000 (v, ()) = _ from (F59_run _ _).trans (F59c1_eq 3999999 _), plain_run (by omega) (by omega) h.okT, Option.bind_some]
theorem okV_spec {v : Vec} (h : okV v = true) : 1 ≤ v.f_Type ∧ v.f_Type ≤ 3 ∧ v.nulls.length ≤ 65536 ∧ lenOK v = true ∧ okFrom v v.nulls.length 0 = true := by
 unfold okV at h
 simp only [Bool.and_eq_true, decide_eq_true_eq] at h
 exact ⟨h.1, h.2.1, h.2.2.1, h.2.2.2.1, h.2.2.2.2⟩
theorem okFrom_at {v : Vec} : ∀ (d i : Nat), okFrom v d i = true → ∀ j, i ≤ j → j < i + d → okAt v j = true
 | 0, i, _, j, h1, h2 => by omega
 | d + 1, i, h, j, h1, h2 => by
  unfold okFrom at h
  simp only [Bool.and_eq_true] at h
  rcases Nat.lt_or_ge i j with h' | h'
  ·exact okFrom_at d (i + 1) h.2 j (by omega) (by omega)
  ·rw [show j = i by omega]; exact h.1
theorem okV_fit {v : Vec} (h : okV v = true) (hs : vsz v ≤ 10000) (hx : okL v.ints) : Fit v := by
 obtain ⟨h1, h2, h3, h4, h5⟩ := okV_spec h
 obtain ⟨l1, l2⟩ := lenOK_spec h4
 unfold vsz at hs
 refine ⟨by omega, by omega, hx, fun s hm => ?_⟩
 by_cases t3 : v.f_Type = 3
 ·obtain ⟨j, hj, rfl⟩ := List.mem_iff_getElem.1 hm
  have := okFrom_at _ _ h5 j (by omega) (by have := (l1 t3).2; omega)
  unfold okAt at this
  rw [decide_eq_true t3, List.getD_eq_getElem?_getD (l := v.texts), List.getElem?_eq_getElem hj] at this
  simp only [Bool.and_eq_true, Bool.not_true, Bool.false_or, decide_eq_true_eq] at this
  exact this.2.2
 ·have : v.texts = [] := List.eq_nil_of_length_eq_zero (l2 t3).1
  rw [this] at hm
  cases hm
def encE (v : Vec) (k : Int) : List Int × Int :=
 if okV v = false then ([], 1) else if k < 0 then ([], 1) else if 5 < k then ([], 1) else if app k v.f_Type = false then ([], 7) else (k :: bodyE v k, 0)
theorem u8_six {k : Int} (h1 : 0 ≤ k) (h2 : k ≤ 5) : IntKind.u8.wrap k = k := u8_wrap_id h1 (by omega)
theorem encode_run {v : Vec} {k : Int} (hs : vsz v ≤ 10000) (hx : okL v.ints) : F11.run [PK.v (Ty.nm 0), PK.v (Ty.int .i64)] [RK.own 5 (Ty.int IntKind.u8), RK.v (Ty.int .i64)] 4000000 (v, k, ()) = some (((encE v k).1, ((encE v k).2, ())), ()) := by
 rw [show F11.run [PK.v (Ty.nm 0), PK.v (Ty.int .i64)] [RK.own 5 (Ty.int IntKind.u8), RK.v (Ty.int .i64)] 4000000 (v, k, ()) = _ from (F11_run _ _ _).trans (F11c1_eq 3999999 _ _), en_run hx, Option.bind_some]
 dsimp only
 unfold encE
 cases hv : okV v with
 | false => rfl
 | true =>
  have hF := okV_fit hv hs hx
  obtain ⟨t1, t2, _⟩ := okV_spec hv
  rw [if_neg (by decide), Bool.not_true, cond_false]
  by_cases h0 : k < 0
  ·rw [decide_eq_true h0, cond_true, if_pos h0]
  by_cases h5 : 5 < k
  ·rw [decide_eq_false h0, cond_false, decide_eq_true h5, cond_true, if_neg h0, if_pos h5]
  rw [decide_eq_false h0, cond_false, decide_eq_false h5, cond_false, if_neg h0, if_neg h5, F11c3_eq (n := 3999998), app_run (by omega) (by omega) t1 t2, Option.bind_some]
  dsimp only
  cases ha : app k v.f_Type with
  | false => rfl
  | true =>
   have hl := bodyE_len hF k
   have hu := u8_six (k := k) (by omega) (by omega)
   rw [if_neg (by decide), Bool.not_true, cond_false, hu]
   rcases six (k := k) (by omega) (by omega) with hk | hk | hk | hk | hk | hk
   ·have hb : bodyE v k = plE v := by unfold bodyE; rw [if_pos hk]
    rw [decide_eq_false (show ¬ k = 1 by omega), cond_false, decide_eq_false (show ¬ k = 2 by omega), cond_false, decide_eq_false (show ¬ k = 3 by omega), cond_false, decide_eq_false (show ¬ k = 4 by omega), cond_false, decide_eq_false (show ¬ k = 5 by omega), cond_false, e6_run hF, Option.bind_some, ← hb]
    dsimp only
    rw [if_pos (by simp only [lim]; omega)]
    rfl
   ·have hb : bodyE v k = rleT (runsT v.ints) := by unfold bodyE; rw [if_neg (by omega), if_pos hk]
    rw [decide_eq_true (show k = 1 from hk), cond_true, e1_run hF, Option.bind_some, ← hb]
    dsimp only
    rw [if_pos (by simp only [lim]; omega)]
    rfl
   ·have hb : bodyE v k = frE v.ints := by unfold bodyE; rw [if_neg (by omega), if_neg (by omega), if_pos hk]
    rw [decide_eq_false (show ¬ k = 1 by omega), cond_false, decide_eq_true (show k = 2 from hk), cond_true, e2_run hF, Option.bind_some, ← hb]
    dsimp only
    rw [if_pos (by simp only [lim]; omega)]
    rfl
   ·have hb : bodyE v k = dlE v.ints := by unfold bodyE; rw [if_neg (by omega), if_neg (by omega), if_neg (by omega), if_pos hk]
    rw [decide_eq_false (show ¬ k = 1 by omega), cond_false, decide_eq_false (show ¬ k = 2 by omega), cond_false, decide_eq_true (show k = 3 from hk), cond_true, e3_run hF, Option.bind_some, ← hb]
    dsimp only
    rw [if_pos (by simp only [lim]; omega)]
    rfl
   ·have hb : bodyE v k = encT v.texts := by unfold bodyE; rw [if_neg (by omega), if_neg (by omega), if_neg (by omega), if_neg (by omega), if_pos hk]
    rw [decide_eq_false (show ¬ k = 1 by omega), cond_false, decide_eq_false (show ¬ k = 2 by omega), cond_false, decide_eq_false (show ¬ k = 3 by omega), cond_false, decide_eq_true (show k = 4 from hk), cond_true, e4_run hF, Option.bind_some, ← hb]
    dsimp only
    rw [if_pos (by simp only [lim]; omega)]
    rfl
   ·have hb : bodyE v k = fcB v.texts v.texts.length := by unfold bodyE; rw [if_neg (by omega), if_neg (by omega), if_neg (by omega), if_neg (by omega), if_neg (by omega)]
    rw [decide_eq_false (show ¬ k = 1 by omega), cond_false, decide_eq_false (show ¬ k = 2 by omega), cond_false, decide_eq_false (show ¬ k = 3 by omega), cond_false, decide_eq_false (show ¬ k = 4 by omega), cond_false, decide_eq_true (show k = 5 from hk), cond_true, e5_run hF, Option.bind_some, ← hb]
    dsimp only
    rw [if_pos (by simp only [lim]; omega)]
    rfl
end Go.Proofs.Tryz
