/- Law 42: hashes and equality of rows. -/
import Derived.Test.YtlkllggdiakpbaaGreatDoorL42Hash
import Derived.Test.YtlkllggdiakpbaaGreatDoorL42Ref
set_option linter.unusedVariables false
set_option linter.unusedSimpArgs false
namespace Go.Proofs.Tryz
open Go.Eng
abbrev VC : PK := PK.v (Ty.nm 3).sl
abbrev IL : PK := PK.v (Ty.int .i64).sl
abbrev RH : RK := RK.own 46 (Ty.int IntKind.u64)
theorem setMix {α : Type} {a r : List α} (hl : r.length = a.length) {i : Nat} (hi : i < a.length) : (a.take i ++ r.drop i).set i a[i] = a.take (i + 1) ++ r.drop (i + 1) := by
 have h1 : (a.take i).length = i := by rw [List.length_take]; omega
 rw [List.set_append, h1, if_neg (by omega), Nat.sub_self, List.drop_eq_getElem_cons (by omega : i < r.length), List.set_cons_zero, List.take_succ_eq_append_getElem hi, List.append_assoc]
 rfl
theorem rowOf_len (C : Tabl) (i : Nat) : (rowOf C i).length = C.length := by simp [rowOf]
theorem rowOf_gv {C : Tabl} {L : Nat} (h : Tab C L) {i : Nat} (hi : i < L) : ∀ v ∈ rowOf C i, GV v := by
 intro v hv
 obtain ⟨c, hc, rfl⟩ := List.mem_map.1 hv
 exact h.gv c hc _ (getD_mem (by rw [h.len c hc]; exact hi) zVal)
theorem vals43_run {C : Tabl} {L i : Nat} (h : Tab C L) (hc : C.length ≤ 1000) (hi : i < L) : F43.run [VC, PK.v (Ty.int .i64)] [RK.own 23 (Ty.nm 0)] 4000000 (cols C, (i : Int), ()) = some ((rowOf C i, ()), ()) := by
 rw [F43_run, show ∀ a b, F43c1 4000000 a b = _ from fun a b => F43c1_eq 3999999 a b]
 have hl : (cols C).length = C.length := List.length_map ..
 obtain ⟨r, e1, rfl⟩ := loop (fun n k (x : List Val) => F43c3 n (cols C) (i : Int) k x) C.length 1 0 (fun k x => x = (rowOf C i).take k) (fun r => r = ((rowOf C i, ()), ()))
  (fun n x _ hx => by
   rw [List.take_of_length_le (by simp [rowOf])] at hx
   subst hx
   exact ⟨_, by rw [F43c3_eq, cdf (by omega)], rfl⟩)
  (fun n k x hk hx => by
   have hm := getD_mem hk ((0 : Int), ([] : List Val))
   have hlr : k < (rowOf C i).length := by simpa [rowOf] using hk
   have hxl : x.length = k := by rw [hx, List.length_take]; omega
   refine .inl ⟨n, x ++ [(rowOf C i).getD k zVal], Nat.le_refl _, ?_, by rw [List.take_succ_eq_append_getElem hlr, hx, getD_eq hlr]⟩
   rw [F43c3_eq, cdt (by omega), gd (by omega), Int.toNat_natCast, show (cols C).getD k zVec = vecOf (C.getD k (0, [])).1 (C.getD k (0, [])).2 from map_getD (e := (0, [])) hk, bnd (rat_run (h.col _ hm) (by rw [h.len _ hm]; exact hi)), if_pos (by unfold lim; omega), w1 (by omega), row_get hk]) C.length 3999999 0 [] (by omega) (by omega) (by omega) rfl
 exact e1
noncomputable def hashes (seed : Int) (C : Tabl) (s : List Int) : List Int := s.map fun i => hval seed (rowOf C i.toNat)
theorem hashes_len (seed : Int) (C : Tabl) (s : List Int) : (hashes seed C s).length = s.length := by simp [hashes]
theorem rhash_run {C : Tabl} {L : Nat} (h : Tab C L) (hc : C.length ≤ 1000) {s : List Int} (hs : Selc L s) (seed : Int) : F21.run [U64, VC, IL] [RH] 4000000 (seed, cols C, s, ()) = some ((hashes seed C s, ()), ()) := by
 have hf := hs.few
 rw [F21_run, show ∀ a b c, F21c1 4000000 a b c = _ from fun a b c => F21c1_eq 3999999 a b c]
 obtain ⟨r, e1, rfl⟩ := loop (fun n k (x : List Int) => F21c3 n seed (cols C) s k x) s.length 1 0 (fun k x => x = (hashes seed C s).take k) (fun r => r = ((hashes seed C s, ()), ()))
  (fun n x _ hx => by
   rw [List.take_of_length_le (by rw [hashes_len]; omega)] at hx
   subst hx
   exact ⟨_, by rw [F21c3_eq, cdf (by omega)], rfl⟩)
  (fun n k x hk hx => by
   have hlt := hs.get hk
   have hmem := hs.mem _ (getD_mem hk 0)
   have hlr : k < (hashes seed C s).length := by rw [hashes_len]; exact hk
   have hxl : x.length = k := by rw [hx, List.length_take]; omega
   have hh : (hashes seed C s)[k] = hval seed (rowOf C (s.getD k 0).toNat) := by rw [getD_eq hk]; simp [hashes]
   refine .inl ⟨n, x ++ [hval seed (rowOf C (s.getD k 0).toNat)], Nat.le_refl _, ?_, by rw [List.take_succ_eq_append_getElem hlr, hx, hh]⟩
   have hv := vals43_run h hc hlt
   rw [show (((s.getD k 0).toNat : Nat) : Int) = s.getD k 0 by omega] at hv
   rw [F21c3_eq, cdt (by omega), gd hk, Int.toNat_natCast, bnd hv]
   dsimp only
   rw [bnd (hval_run (rowOf_gv h hlt) (by rw [rowOf_len]; omega) seed).2, if_pos (by unfold lim; omega), w1 (by omega)]) s.length 3999999 0 [] (by omega) (by omega) (by omega) rfl
 exact e1
theorem in20 {C : Tabl} {L k i : Nat} (h : Tab C L) (hc : C.length ≤ 1000) (hk : k < L) (seed : Int) (s out row : List Int) (x4 : List Int) {r0 : List Val} (hr : r0.length = C.length) (hi : i < out.length) (x5 x6 : Int) {n : Nat} :
  ∀ d c : Nat, c + d = C.length → F20c7 (n + d + 1) seed (cols C) (i : Int) (k : Int) x4 x5 x6 (cols C) (C.length : Int) (c : Int) out ((rowOf C k).take c ++ r0.drop c) =
   F20c4 n seed (cols C) x4 x5 (IntKind.i64.wrap (x6 + 1)) (out.set i (hval seed (rowOf C k))) (rowOf C k)
 | 0, c, hcd => by
  have hfull : (rowOf C k).take c ++ r0.drop c = rowOf C k := by
   rw [List.take_of_length_le (by rw [rowOf_len]; omega), List.drop_eq_nil_of_le (by omega), List.append_nil]
  rw [F20c7_eq, cdf (by omega), hfull, bnd (hval_run (rowOf_gv h hk) (by rw [rowOf_len]; omega) seed).1]
  dsimp only
  rw [gd hi, Int.toNat_natCast]
 | d + 1, c, hcd => by
  have hlt : c < C.length := by omega
  have hm := getD_mem hlt ((0 : Int), ([] : List Val))
  have hcl : (cols C).length = C.length := List.length_map ..
  have hrl : ((rowOf C k).take c ++ r0.drop c).length = C.length := by rw [List.length_append, List.length_take, List.length_drop, rowOf_len, hr]; omega
  have ih := in20 h hc hk seed s out row x4 hr hi x5 x6 (n := n) d (c + 1) (by omega)
  have hlr : c < (rowOf C k).length := by rw [rowOf_len]; exact hlt
  rw [show n + (d + 1) + 1 = (n + d + 1) + 1 by omega, F20c7_eq, cdt (by omega), gd (by omega), Int.toNat_natCast, vec_eta,
   show (cols C).getD c zVec = vecOf (C.getD c (0, [])).1 (C.getD c (0, [])).2 from map_getD (e := (0, [])) hlt, bnd (at_run (h.col _ hm) (by rw [h.len _ hm]; exact hk)), gd (by omega), w1 (by omega)]
  dsimp only
  rw [← row_get hlt, getD_eq hlr, setMix (by rw [rowOf_len]; exact hr) hlr]
  exact ih
theorem phash_run {C : Tabl} {L : Nat} (h : Tab C L) (hc : C.length ≤ 1000) {s : List Int} (hs : Selc L s) (seed : Int) : F20.run [U64, VC, IL] [RH] 4000000 (seed, cols C, s, ()) = some ((hashes seed C s, ()), ()) := by
 have hf := hs.few
 have hcl : (cols C).length = C.length := List.length_map ..
 rw [F20_run, show ∀ a b c, F20c1 4000000 a b c = _ from fun a b c => F20c1_eq 3999999 a b c, if_pos (by unfold lim; omega), if_pos (by unfold lim; omega), Int.toNat_natCast, Int.toNat_natCast]
 obtain ⟨r, e1, rfl⟩ := loop (fun n k (x : List Int × List Val) => F20c4 n seed (cols C) s (s.length : Int) k x.1 x.2) s.length 1003 0
  (fun k x => x.1 = (hashes seed C s).take k ++ (List.replicate s.length 0).drop k ∧ x.2.length = C.length) (fun r => r = ((hashes seed C s, ()), ()))
  (fun n x _ hx => by
   rw [List.take_of_length_le (by rw [hashes_len]; omega), List.drop_eq_nil_of_le (by simp), List.append_nil] at hx
   exact ⟨_, by rw [F20c4_eq, cdf (by omega), hx.1], rfl⟩)
  (fun n k x hk hx => by
   have hlt := hs.get hk
   have hmem := hs.mem _ (getD_mem hk 0)
   have hlr : k < (hashes seed C s).length := by rw [hashes_len]; exact hk
   have hh : (hashes seed C s)[k] = hval seed (rowOf C (s.getD k 0).toNat) := by rw [getD_eq hk]; simp [hashes]
   have hol : x.1.length = s.length := by rw [hx.1, List.length_append, List.length_take, List.length_drop, hashes_len, List.length_replicate]; omega
   refine .inl ⟨n + 1002 - C.length - 1, (x.1.set k (hval seed (rowOf C (s.getD k 0).toNat)), rowOf C (s.getD k 0).toNat), by omega, ?_, ?_, by rw [rowOf_len]⟩
   ·have := in20 (i := k) h hc hlt seed s x.1 [] s (r0 := x.2) hx.2 (by omega) (s.length : Int) (k : Int) (n := n + 1002 - C.length - 1) C.length 0 (by omega)
    rw [List.take_zero, List.drop_zero, List.nil_append, show (((s.getD k 0).toNat : Nat) : Int) = s.getD k 0 by omega, show n + 1002 - C.length - 1 + C.length + 1 = n + 1002 by omega, w1 (by omega)] at this
    rw [show n + 1003 = (n + 1002) + 1 from rfl, F20c4_eq, cdt (by omega), gd hk, Int.toNat_natCast, hcl]
    exact this
   ·show x.1.set k _ = _
    rw [hx.1, ← hh, setMix (by rw [hashes_len, List.length_replicate]) hlr]) s.length 3999999 0 (List.replicate s.length 0, List.replicate C.length zVal) (by omega) (by omega) (by omega) ⟨by simp, by simp⟩
 rw [hcl]
 exact e1
/-! ## Equality of rows -/
theorem sgn_zero {a b : Bool} (h : sgn a b = 0) : a = false ∧ b = false := by cases a <;> cases b <;> first | exact ⟨rfl, rfl⟩ | (exact absurd h (by decide))
theorem vcmp_zero {a b : Val} (ha : valid a = true) (hb : valid b = true) : vcmp a b = 0 ↔ a = b := by
 constructor
 ·intro h
  unfold vcmp at h
  by_cases hk : a.kind = b.kind
  ·rw [decide_eq_true hk, Bool.not_true, cf] at h
   by_cases h3 : a.kind = 3
   ·rw [cdt h3] at h
    obtain ⟨h1, h2⟩ := sgn_zero h
    have ht := strLt_total a.text b.text
    rw [h1, h2, Bool.false_or, Bool.not_false, decide_eq_true_eq] at ht
    rw [valid_k3 ha h3, valid_k3 hb (by rw [← hk]; exact h3), ht]
   ·rw [cdf h3] at h
    obtain ⟨h1, h2⟩ := sgn_zero h
    have h1 := of_decide_eq_false h1
    have h2 := of_decide_eq_false h2
    have he : a.int = b.int := by omega
    by_cases h0 : a.kind = 0
    ·rw [valid_null ha h0, valid_null hb (by rw [← hk]; exact h0)]
    ·have hkn : a.kind = 1 ∨ a.kind = 2 := by
      rcases valid_kind ha with h | h | h | h
      ·exact absurd h h0
      ·exact .inl h
      ·exact .inr h
      ·exact absurd h h3
     rw [valid_kn ha hkn, valid_kn hb (by rw [← hk]; exact hkn), hk, he]
  ·rw [decide_eq_false hk, Bool.not_false, ct] at h
   have := (sgn_zero h).2
   cases this
 ·rintro rfl
  unfold vcmp
  have hs : strLt a.text a.text = false := by
   have ht := strLt_total a.text a.text
   rw [decide_eq_true rfl, Bool.or_true] at ht
   exact Bool.not_eq_true' _ ▸ ht.symm
  rw [decide_eq_true rfl, Bool.not_true, cf]
  by_cases h3 : a.kind = 3
  ·rw [cdt h3, hs]; rfl
  ·rw [cdf h3, decide_eq_false (by omega)]; rfl
theorem eqval_run {a b : Val} (ha : valid a = true) (hb : valid b = true) : F44.run [PK.v (Ty.nm 0), PK.v (Ty.nm 0)] [RK.v Ty.bool] 4000000 (a, b, ()) = some ((decide (a = b), ()), ()) := by
 rw [F44_run, bnd (pcmp_run ha hb)]
 dsimp only
 rw [show decide (vcmp a b = 0) = decide (a = b) from decide_eq_decide.2 (vcmp_zero ha hb)]
theorem eqcells (x y : Val) : (decide (x.kind = y.kind) && (decide (x.int = y.int) && (decide (x.text = y.text) && true))) = decide (x = y) := by
 rw [Bool.and_true, ← Bool.decide_and, ← Bool.decide_and]
 refine decide_eq_decide.2 ⟨fun h => ?_, fun h => by rw [h]; exact ⟨rfl, rfl, rfl⟩⟩
 cases x; cases y
 obtain ⟨h1, h2, h3⟩ := h
 simp only at h1 h2 h3
 rw [h1, h2, h3]
def eqr (C D : Tabl) (L M : Nat) (i j : Int) : Bool := decide (C.length = D.length) && (decide (0 ≤ i) && (decide (0 ≤ j) && (decide (C.length = 0) || (decide (i < (L : Int)) && (decide (j < (M : Int)) && decide (rowOf C i.toNat = rowOf D j.toNat))))))
theorem cols_nulls {C : Tabl} {L : Nat} (h : Tab C L) {k : Nat} (hk : k < C.length) : ((cols C).getD k zVec).nulls.length = L := by
 have hm := getD_mem hk ((0 : Int), ([] : List Val))
 rw [show (cols C).getD k zVec = vecOf (C.getD k (0, [])).1 (C.getD k (0, [])).2 from map_getD (e := (0, [])) hk, vec_len, h.len _ hm]
theorem col_at {C : Tabl} {L : Nat} (h : Tab C L) {k i : Nat} (hk : k < C.length) (hi : i < L) : F40.run [PK.v (Ty.nm 3), PK.v (Ty.int .i64)] [RK.v (Ty.nm 0)] 4000000 ((cols C).getD k zVec, (i : Int), ()) = some (((rowOf C i).getD k zVal, ()), ()) := by
 have hm := getD_mem hk ((0 : Int), ([] : List Val))
 rw [show (cols C).getD k zVec = vecOf (C.getD k (0, [])).1 (C.getD k (0, [])).2 from map_getD (e := (0, [])) hk, at_run (h.col _ hm) (by rw [h.len _ hm]; exact hi), row_get hk]
theorem col_rat {C : Tabl} {L : Nat} (h : Tab C L) {k i : Nat} (hk : k < C.length) (hi : i < L) : F46.run [PK.v (Ty.nm 3), PK.v (Ty.int .i64)] [RK.v (Ty.nm 0)] 4000000 ((cols C).getD k zVec, (i : Int), ()) = some (((rowOf C i).getD k zVal, ()), ()) := by
 have hm := getD_mem hk ((0 : Int), ([] : List Val))
 rw [show (cols C).getD k zVec = vecOf (C.getD k (0, [])).1 (C.getD k (0, [])).2 from map_getD (e := (0, [])) hk, rat_run (h.col _ hm) (by rw [h.len _ hm]; exact hi), row_get hk]
theorem take_all {a b : List Val} (hl : a.length = b.length) (h : a.take a.length = b.take a.length) : a = b := by
 rw [List.take_of_length_le (Nat.le_refl _), List.take_of_length_le (by omega)] at h
 exact h
theorem take_step {a b : List Val} {k : Nat} (ha : k < a.length) (hb : k < b.length) (h : a.take k = b.take k) (he : a.getD k zVal = b.getD k zVal) : a.take (k + 1) = b.take (k + 1) := by
 rw [getD_eq ha, getD_eq hb] at he
 rw [List.take_succ_eq_append_getElem ha, List.take_succ_eq_append_getElem hb, h, he]
theorem er_p {C D : Tabl} {L M i j : Nat} (h : Tab C L) (h' : Tab D M) (hc : C.length ≤ 1000) (hd : C.length = D.length) (hi : i < L) (hj : j < M) {n : Nat} (hn : 2000 ≤ n) :
  F22c4 n (cols C) (i : Int) (cols D) (j : Int) (C.length : Int) 0 = some ((decide (rowOf C i = rowOf D j), ()), ()) := by
 have hcl : (cols C).length = C.length := List.length_map ..
 have hdl : (cols D).length = D.length := List.length_map ..
 obtain ⟨r, e1, rfl⟩ := loop (fun n k (x : Unit) => F22c4 n (cols C) (i : Int) (cols D) (j : Int) (C.length : Int) k) C.length 1 0 (fun k _ => (rowOf C i).take k = (rowOf D j).take k) (fun r => r = ((decide (rowOf C i = rowOf D j), ()), ()))
  (fun n x _ hx => by
   have : rowOf C i = rowOf D j := take_all (by rw [rowOf_len, rowOf_len, hd]) (by rw [rowOf_len]; exact hx)
   exact ⟨_, by rw [F22c4_eq, cdf (by omega)], by rw [decide_eq_true this]⟩)
  (fun n k x hk hx => by
   have hk' : k < D.length := by omega
   have va := (rowOf_gv h hi _ (getD_mem (by rw [rowOf_len]; exact hk) zVal)).valid
   have vb := (rowOf_gv h' hj _ (getD_mem (by rw [rowOf_len]; exact hk') zVal)).valid
   have e0 : F22c4 (n + 1) (cols C) (i : Int) (cols D) (j : Int) (C.length : Int) (k : Int) = bif !decide ((rowOf C i).getD k zVal = (rowOf D j).getD k zVal) then some ((false, ()), ()) else F22c4 n (cols C) (i : Int) (cols D) (j : Int) (C.length : Int) ((k + 1 : Nat) : Int) := by
    rw [F22c4_eq, cdt (by omega), gd (by omega), Int.toNat_natCast, cols_nulls h hk, cdf (by omega), gd (by omega), cols_nulls h' hk', cdf (by omega), gd (by omega), bnd (col_at h hk hi)]
    dsimp only
    rw [gd (by omega), bnd (col_at h' hk' hj)]
    dsimp only
    rw [bnd (eqval_run va vb), w1 (by omega)]
   by_cases he : (rowOf C i).getD k zVal = (rowOf D j).getD k zVal
   ·exact .inl ⟨n, (), Nat.le_refl _, by rw [e0, decide_eq_true he, Bool.not_true, cf], take_step (by rw [rowOf_len]; exact hk) (by rw [rowOf_len]; exact hk') hx he⟩
   ·refine .inr ⟨_, by rw [e0, decide_eq_false he, Bool.not_false, ct], ?_⟩
    rw [decide_eq_false (fun hh => he (by rw [hh]))]) C.length n 0 () (by omega) (by omega) (by omega) rfl
 exact e1
theorem er_r {C D : Tabl} {L M i j : Nat} (h : Tab C L) (h' : Tab D M) (hc : C.length ≤ 1000) (hd : C.length = D.length) (hi : i < L) (hj : j < M) {n : Nat} (hn : 4000 ≤ n) :
  F23c4 n (cols C) (i : Int) (cols D) (j : Int) 0 = some ((decide (rowOf C i = rowOf D j), ()), ()) := by
 have hcl : (cols C).length = C.length := List.length_map ..
 have hdl : (cols D).length = D.length := List.length_map ..
 obtain ⟨r, e1, rfl⟩ := loop (fun n k (x : Unit) => F23c4 n (cols C) (i : Int) (cols D) (j : Int) k) C.length 2 0 (fun k _ => (rowOf C i).take k = (rowOf D j).take k) (fun r => r = ((decide (rowOf C i = rowOf D j), ()), ()))
  (fun n x _ hx => by
   have : rowOf C i = rowOf D j := take_all (by rw [rowOf_len, rowOf_len, hd]) (by rw [rowOf_len]; exact hx)
   exact ⟨_, by rw [F23c4_eq, cdf (by omega)], by rw [decide_eq_true this]⟩)
  (fun n k x hk hx => by
   have hk' : k < D.length := by omega
   have e0 : F23c4 (n + 2) (cols C) (i : Int) (cols D) (j : Int) (k : Int) = bif !decide ((rowOf C i).getD k zVal = (rowOf D j).getD k zVal) then some ((false, ()), ()) else F23c4 n (cols C) (i : Int) (cols D) (j : Int) ((k + 1 : Nat) : Int) := by
    rw [F23c4_eq, cdt (by omega), cdt (by omega), F23c6_eq, gd (by omega), Int.toNat_natCast, bnd (col_rat h hk hi)]
    dsimp only
    rw [gd (by omega), bnd (col_rat h' hk' hj)]
    dsimp only
    rw [eqcells, w1 (by omega)]
   by_cases he : (rowOf C i).getD k zVal = (rowOf D j).getD k zVal
   ·exact .inl ⟨n, (), Nat.le_refl _, by rw [e0, decide_eq_true he, Bool.not_true, cf], take_step (by rw [rowOf_len]; exact hk) (by rw [rowOf_len]; exact hk') hx he⟩
   ·refine .inr ⟨_, by rw [e0, decide_eq_false he, Bool.not_false, ct], ?_⟩
    rw [decide_eq_false (fun hh => he (by rw [hh]))]) C.length n 0 () (by omega) (by omega) (by omega) rfl
 exact e1
theorem within_run {C : Tabl} {L : Nat} (h : Tab C L) (hc : C.length ≤ 1000) (i : Int) : F45.run [VC, PK.v (Ty.int .i64)] [RK.v Ty.bool] 4000000 (cols C, i, ()) = some ((decide (0 ≤ i) && (decide (C.length = 0) || decide (i < (L : Int))), ()), ()) := by
 have hcl : (cols C).length = C.length := List.length_map ..
 rw [F45_run]
 by_cases h0 : C.length = 0
 ·rw [show ∀ a b c, F45c2 4000000 a b c = _ from fun a b c => F45c2_eq 3999999 a b c, cdf (by omega), decide_eq_true h0, Bool.true_or, Bool.and_true]
 ·by_cases hi : i < (L : Int)
  ·obtain ⟨r, e1, rfl⟩ := loop (fun n k (x : Unit) => F45c2 n (cols C) i k) C.length 1 0 (fun k _ => True) (fun r => r = ((decide (0 ≤ i), ()), ()))
    (fun n x _ hx => ⟨_, by rw [F45c2_eq, cdf (by omega)], rfl⟩)
    (fun n k x hk hx => .inl ⟨n, (), Nat.le_refl _, by rw [F45c2_eq, cdt (by omega), gd (by omega), Int.toNat_natCast, cols_nulls h hk, cdf (by omega), w1 (by omega)], trivial⟩) C.length 4000000 0 () (by omega) (by omega) (by omega) trivial
   rw [decide_eq_true hi, Bool.or_true, Bool.and_true]
   exact e1
  ·have hp : 0 < C.length := by omega
   have hn := cols_nulls h hp
   rw [show ∀ a b c, F45c2 4000000 a b c = _ from fun a b c => F45c2_eq 3999999 a b c, cdt (by omega), if_pos (by omega), if_pos (by omega), show Int.toNat 0 = 0 from rfl, hn, cdt (by omega), decide_eq_false h0, decide_eq_false hi, Bool.or_false, Bool.and_false]
theorem rer_run {C D : Tabl} {L M : Nat} (h : Tab C L) (h' : Tab D M) (hc : C.length ≤ 1000) (hd : D.length ≤ 1000) (i j : Int) : F23.run [VC, PK.v (Ty.int .i64), VC, PK.v (Ty.int .i64)] [RK.v Ty.bool] 4000000 (cols C, i, cols D, j, ()) = some ((eqr C D L M i j, ()), ()) := by
 have hcl : (cols C).length = C.length := List.length_map ..
 have hdl : (cols D).length = D.length := List.length_map ..
 rw [F23_run, hcl, hdl]
 unfold eqr
 by_cases hl : C.length = D.length
 ·rw [decide_eq_true (show (C.length : Int) = (D.length : Int) by omega), Bool.not_true, cf, bnd (within_run h hc i), decide_eq_true hl, Bool.true_and]
  dsimp only
  by_cases hi : 0 ≤ i
  ·rw [decide_eq_true hi, Bool.true_and, Bool.true_and]
   by_cases h0 : C.length = 0
   ·have h0' : D.length = 0 := by omega
    rw [decide_eq_true h0, Bool.true_or, Bool.not_true, cf, bnd (within_run h' hd j), decide_eq_true h0', Bool.true_or, Bool.and_true, Bool.true_or, Bool.and_true]
    dsimp only
    by_cases hj : 0 ≤ j
    ·rw [decide_eq_true hj, Bool.not_true, cf, show ∀ a b c d, F23c3 4000000 a b c d = _ from fun a b c d => F23c3_eq 3999999 a b c d, show ∀ a b c d e, F23c4 3999999 a b c d e = _ from fun a b c d e => F23c4_eq 3999998 a b c d e, cdf (by omega)]
    ·rw [decide_eq_false hj, Bool.not_false, ct]
   ·have h0' : D.length ≠ 0 := by omega
    rw [decide_eq_false h0, Bool.false_or, Bool.false_or]
    by_cases hiL : i < (L : Int)
    ·rw [decide_eq_true hiL, Bool.not_true, cf, bnd (within_run h' hd j), decide_eq_false h0', Bool.false_or, Bool.true_and]
     dsimp only
     by_cases hj : 0 ≤ j
     ·rw [decide_eq_true hj, Bool.true_and, Bool.true_and]
      by_cases hjM : j < (M : Int)
      ·have := er_r (i := i.toNat) (j := j.toNat) h h' hc hl (by omega) (by omega) (n := 3999999) (by omega)
       rw [show ((i.toNat : Nat) : Int) = i by omega, show ((j.toNat : Nat) : Int) = j by omega] at this
       rw [decide_eq_true hjM, Bool.not_true, cf, Bool.true_and, show ∀ a b c d, F23c3 4000000 a b c d = _ from fun a b c d => F23c3_eq 3999999 a b c d, this]
      ·rw [decide_eq_false hjM, Bool.not_false, ct, Bool.false_and]
     ·rw [decide_eq_false hj, Bool.false_and, Bool.not_false, ct, Bool.false_and]
    ·rw [decide_eq_false hiL, Bool.not_false, ct, Bool.false_and, Bool.and_false]
  ·rw [decide_eq_false hi, Bool.false_and, Bool.not_false, ct, Bool.false_and]
 ·rw [decide_eq_false (show ¬ (C.length : Int) = (D.length : Int) by omega), Bool.not_false, ct, decide_eq_false hl, Bool.false_and]
theorem per_run {C D : Tabl} {L M : Nat} (h : Tab C L) (h' : Tab D M) (hc : C.length ≤ 1000) (hd : D.length ≤ 1000) (i j : Int) : F22.run [VC, PK.v (Ty.int .i64), VC, PK.v (Ty.int .i64)] [RK.v Ty.bool] 4000000 (cols C, i, cols D, j, ()) = some ((eqr C D L M i j, ()), ()) := by
 have hcl : (cols C).length = C.length := List.length_map ..
 have hdl : (cols D).length = D.length := List.length_map ..
 rw [F22_run, hcl, hdl]
 unfold eqr
 by_cases hl : C.length = D.length
 ·rw [decide_eq_true (show (C.length : Int) = (D.length : Int) by omega), Bool.not_true, cf, decide_eq_true hl, Bool.true_and]
  by_cases hi : 0 ≤ i
  ·rw [decide_eq_true hi, Bool.true_and, cdf (by omega)]
   by_cases hj : 0 ≤ j
   ·rw [decide_eq_true hj, Bool.true_and, cdf (by omega), show ∀ a b c d, F22c3 4000000 a b c d = _ from fun a b c d => F22c3_eq 3999999 a b c d, hcl]
    by_cases h0 : C.length = 0
    ·rw [decide_eq_true h0, Bool.true_or, show ∀ a b c d e f, F22c4 3999999 a b c d e f = _ from fun a b c d e f => F22c4_eq 3999998 a b c d e f, cdf (by omega)]
    ·have hp : 0 < C.length := by omega
     have hp' : 0 < D.length := by omega
     rw [decide_eq_false h0, Bool.false_or]
     by_cases hiL : i < (L : Int)
     ·rw [decide_eq_true hiL, Bool.true_and]
      by_cases hjM : j < (M : Int)
      ·have := er_p (i := i.toNat) (j := j.toNat) h h' hc hl (by omega) (by omega) (n := 3999999) (by omega)
       rw [show ((i.toNat : Nat) : Int) = i by omega, show ((j.toNat : Nat) : Int) = j by omega] at this
       rw [decide_eq_true hjM, Bool.true_and, this]
      ·rw [decide_eq_false hjM, Bool.false_and, show ∀ a b c d e f, F22c4 3999999 a b c d e f = _ from fun a b c d e f => F22c4_eq 3999998 a b c d e f, cdt (by omega), if_pos (by omega), if_pos (by omega), show Int.toNat 0 = 0 from rfl, cols_nulls h hp, cdf (by omega), if_pos (by omega), if_pos (by omega), cols_nulls h' hp', cdt (by omega)]
     ·rw [decide_eq_false hiL, Bool.false_and, show ∀ a b c d e f, F22c4 3999999 a b c d e f = _ from fun a b c d e f => F22c4_eq 3999998 a b c d e f, cdt (by omega), if_pos (by omega), if_pos (by omega), show Int.toNat 0 = 0 from rfl, cols_nulls h hp, cdt (by omega)]
   ·rw [decide_eq_false hj, Bool.false_and, cdt (by omega)]
  ·rw [decide_eq_false hi, Bool.false_and, cdt (by omega)]
 ·rw [decide_eq_false (show ¬ (C.length : Int) = (D.length : Int) by omega), Bool.not_false, ct, decide_eq_false hl, Bool.false_and]
end Go.Proofs.Tryz
