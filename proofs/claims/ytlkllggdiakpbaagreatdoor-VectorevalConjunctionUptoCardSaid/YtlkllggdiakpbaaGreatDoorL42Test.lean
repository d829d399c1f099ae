/- Law 42: comparing vectors, gathering. -/
import Derived.Test.YtlkllggdiakpbaaGreatDoorL42Elem2
set_option linter.unusedVariables false
set_option linter.unusedSimpArgs false
namespace Go.Proofs.Tryz
open Go.Eng
def tst (op : Int) (l m : List Val) : List Val := (List.range l.length).map fun j => vtest op (l.getD j zVal) (m.getD j zVal)
theorem tst_get {op : Int} {l m : List Val} {i : Nat} (hi : i < l.length) : (tst op l m).getD i zVal = vtest op (l.getD i zVal) (m.getD i zVal) := by
 unfold tst
 rw [getD_eq (by simpa using hi), List.getElem_map, List.getElem_range]
theorem tst_len (op : Int) (l m : List Val) : (tst op l m).length = l.length := by simp [tst]
theorem vtest_op {op : Int} {a b : Val} (h : 1 ≤ op ∧ op ≤ 6) : vtest op a b = bif decide (a.kind = 0) then zVal else bif !decide (a.kind = b.kind) then zVal else vbool (holdsC op (vcmp a b)) := by
 unfold vtest
 rw [decide_eq_false (show ¬ op < 1 by omega), decide_eq_false (show ¬ 6 < op by omega)]
 rfl
theorem compareI_run {op t : Int} {l m : List Val} (ho : 1 ≤ op ∧ op ≤ 6) (ht : isNum t = true) (h3 : t ≠ 3) (h0 : t ≠ 0) (h : Col t l) (k : Col t m) (hlm : l.length = m.length) (hl : l.length ≤ 1000) :
  F127000128.run [PK.v (Ty.int .i64).sl, PK.v (Ty.int .i64).sl, PK.fn 126 [(4 : Nat), (5 : Nat)], PK.v (Ty.int .i64), PK.bw (Ty.nm 3), PK.bw (Ty.nm 3)] [RK.v (Ty.nm 3)] 4000000 ((vecOf t l).ints, (vecOf t m).ints, (), op, vecOf t l, vecOf t m, ()) =
   some ((vecOf 1 (tst op l m), ()), (vecOf t l, vecOf t m, ())) := by
 have e1 : (vecOf t l).ints.length = l.length := by rw [vec_ints ht, List.length_map]
 have e2 : (vecOf t m).ints.length = m.length := by rw [vec_ints ht, List.length_map]
 rw [F127000128_run, e1, bnd (nulls_run (by unfold isTyp; omega) (by omega))]
 simp only [tup, vec1, List.length_map, List.length_replicate]
 let R : Nat → Val := fun j => vtest op (l.getD j zVal) (m.getD j zVal)
 obtain ⟨r, e1, rfl⟩ := loop (fun n i (s : List Val) => F127000128c3 n (vecOf t l).ints (vecOf t m).ints op (l.length : Int) i 0 1 [] [] [] (s.map Val.int) [] (s.map isN) (vecOf t l) (vecOf t m)) l.length 1 0 (fun i s => s = upto zVal R l.length i) (fun r => r = ((vecOf 1 (tst op l m), ()), (vecOf t l, vecOf t m, ())))
  (fun n s _ hs => by
   subst hs
   exact ⟨_, by rw [F127000128c3_eq, cdf (by omega), upto_full]; rfl, rfl⟩)
  (fun n i s hi hs => by
   subst hs
   refine .inl ⟨n, _, Nat.le_refl _, ?_, rfl⟩
   have hi' : i < m.length := by omega
   obtain ⟨hv, hf⟩ := h.get hi
   obtain ⟨kv, kf⟩ := k.get hi'
   have g1 : i < ((upto zVal R l.length i).map isN).length := by simp only [List.length_map, upto_len]; omega
   have g2 : i < ((upto zVal R l.length i).map Val.int).length := by simp only [List.length_map, upto_len]; omega
   have hR : R i = _ := vtest_op ho
   rw [F127000128c3_eq, cdt (by omega), bnd (skip_run hi hi'), w1 (by omega)]
   simp only []
   by_cases n1 : (l.getD i zVal).kind = 0
   ·rw [cdt n1] at hR
    rw [show isN (l.getD i zVal) = true from decide_eq_true n1, Bool.true_or, ct, upto_keep (f := Val.int) hi (by rw [hR]), upto_keep (f := isN) hi (by rw [hR])]
   ·rw [cdf n1] at hR
    have q1 : (l.getD i zVal).kind = t := hf.resolve_left n1
    by_cases n2 : (m.getD i zVal).kind = 0
    ·rw [decide_eq_false (by omega), Bool.not_false, ct] at hR
     rw [show isN (m.getD i zVal) = true from decide_eq_true n2, Bool.or_true, ct, upto_keep (f := Val.int) hi (by rw [hR]), upto_keep (f := isN) hi (by rw [hR])]
    ·have q2 : (m.getD i zVal).kind = t := kf.resolve_left n2
     have hc : vcmp (l.getD i zVal) (m.getD i zVal) = sgn (decide ((l.getD i zVal).int < (m.getD i zVal).int)) (decide ((m.getD i zVal).int < (l.getD i zVal).int)) := by
      unfold vcmp
      rw [decide_eq_true (q1.trans q2.symm), Bool.not_true, cf, decide_eq_false (by rw [q1]; exact h3), cf]
     rw [decide_eq_true (q1.trans q2.symm), Bool.not_true, cf, hc] at hR
     rw [show isN (l.getD i zVal) = false from decide_eq_false n1, show isN (m.getD i zVal) = false from decide_eq_false n2, Bool.false_or, cf, gd g1, gd (by omega), gd (by omega), Int.toNat_natCast, vec_ints ht, vec_ints ht, map_getD (e := zVal) hi, map_getD (e := zVal) hi',
      bnd (cmpI_run _ _), bnd (holds_run ho), gd g2, upto_put (f := isN) hi (by rw [hR]; rfl)]
     simp only []
     cases hb : holdsC op (sgn (decide ((l.getD i zVal).int < (m.getD i zVal).int)) (decide ((m.getD i zVal).int < (l.getD i zVal).int))) with
     | true => rw [hb] at hR; rw [ct, upto_put hi (by rw [hR]; rfl)]
     | false => rw [hb] at hR; rw [cf, upto_keep (f := Val.int) hi (by rw [hR]; rfl)]) l.length 4000000 0 (List.replicate l.length zVal) (by omega) (by omega) (by omega) (upto_zero ..).symm
 exact e1
theorem compareT_run {op : Int} {l m : List Val} (ho : 1 ≤ op ∧ op ≤ 6) (h : Col 3 l) (k : Col 3 m) (hlm : l.length = m.length) (hl : l.length ≤ 1000) :
  F127000127.run [PK.v Ty.str.sl, PK.v Ty.str.sl, PK.fn 126 [(4 : Nat), (5 : Nat)], PK.v (Ty.int .i64), PK.bw (Ty.nm 3), PK.bw (Ty.nm 3)] [RK.v (Ty.nm 3)] 4000000 ((vecOf 3 l).texts, (vecOf 3 m).texts, (), op, vecOf 3 l, vecOf 3 m, ()) =
   some ((vecOf 1 (tst op l m), ()), (vecOf 3 l, vecOf 3 m, ())) := by
 have e1 : (vecOf 3 l).texts.length = l.length := by rw [vec_texts, List.length_map]
 have e2 : (vecOf 3 m).texts.length = m.length := by rw [vec_texts, List.length_map]
 rw [F127000127_run, e1, bnd (nulls_run (by unfold isTyp; omega) (by omega))]
 simp only [tup, vec1, List.length_map, List.length_replicate]
 let R : Nat → Val := fun j => vtest op (l.getD j zVal) (m.getD j zVal)
 obtain ⟨r, e1, rfl⟩ := loop (fun n i (s : List Val) => F127000127c3 n (vecOf 3 l).texts (vecOf 3 m).texts op (l.length : Int) i 0 1 [] [] [] (s.map Val.int) [] (s.map isN) (vecOf 3 l) (vecOf 3 m)) l.length 1 0 (fun i s => s = upto zVal R l.length i) (fun r => r = ((vecOf 1 (tst op l m), ()), (vecOf 3 l, vecOf 3 m, ())))
  (fun n s _ hs => by
   subst hs
   exact ⟨_, by rw [F127000127c3_eq, cdf (by omega), upto_full]; rfl, rfl⟩)
  (fun n i s hi hs => by
   subst hs
   refine .inl ⟨n, _, Nat.le_refl _, ?_, rfl⟩
   have hi' : i < m.length := by omega
   obtain ⟨hv, hf⟩ := h.get hi
   obtain ⟨kv, kf⟩ := k.get hi'
   have g1 : i < ((upto zVal R l.length i).map isN).length := by simp only [List.length_map, upto_len]; omega
   have g2 : i < ((upto zVal R l.length i).map Val.int).length := by simp only [List.length_map, upto_len]; omega
   have hR : R i = _ := vtest_op ho
   rw [F127000127c3_eq, cdt (by omega), bnd (skip_run hi hi'), w1 (by omega)]
   simp only []
   by_cases n1 : (l.getD i zVal).kind = 0
   ·rw [cdt n1] at hR
    rw [show isN (l.getD i zVal) = true from decide_eq_true n1, Bool.true_or, ct, upto_keep (f := Val.int) hi (by rw [hR]), upto_keep (f := isN) hi (by rw [hR])]
   ·rw [cdf n1] at hR
    have q1 : (l.getD i zVal).kind = 3 := hf.resolve_left n1
    by_cases n2 : (m.getD i zVal).kind = 0
    ·rw [decide_eq_false (by omega), Bool.not_false, ct] at hR
     rw [show isN (m.getD i zVal) = true from decide_eq_true n2, Bool.or_true, ct, upto_keep (f := Val.int) hi (by rw [hR]), upto_keep (f := isN) hi (by rw [hR])]
    ·have q2 : (m.getD i zVal).kind = 3 := kf.resolve_left n2
     have hc : vcmp (l.getD i zVal) (m.getD i zVal) = sgn (strLt (l.getD i zVal).text (m.getD i zVal).text) (strLt (m.getD i zVal).text (l.getD i zVal).text) := by
      unfold vcmp
      rw [decide_eq_true (q1.trans q2.symm), Bool.not_true, cf, decide_eq_true q1, ct]
     rw [decide_eq_true (q1.trans q2.symm), Bool.not_true, cf, hc] at hR
     rw [show isN (l.getD i zVal) = false from decide_eq_false n1, show isN (m.getD i zVal) = false from decide_eq_false n2, Bool.false_or, cf, gd g1, gd (by omega), gd (by omega), Int.toNat_natCast, vec_texts, vec_texts, map_getD (e := zVal) hi, map_getD (e := zVal) hi',
      bnd (cmpT_run _ _), bnd (holds_run ho), gd g2, upto_put (f := isN) hi (by rw [hR]; rfl)]
     simp only []
     cases hb : holdsC op (sgn (strLt (l.getD i zVal).text (m.getD i zVal).text) (strLt (m.getD i zVal).text (l.getD i zVal).text)) with
     | true => rw [hb] at hR; rw [ct, upto_put hi (by rw [hR]; rfl)]
     | false => rw [hb] at hR; rw [cf, upto_keep (f := Val.int) hi (by rw [hR]; rfl)]) l.length 4000000 0 (List.replicate l.length zVal) (by omega) (by omega) (by omega) (upto_zero ..).symm
 exact e1
theorem tst_null {op : Int} {l m : List Val} (ho : 1 ≤ op ∧ op ≤ 6) (h : ∀ i, i < l.length → (l.getD i zVal).kind = 0 ∨ (l.getD i zVal).kind ≠ (m.getD i zVal).kind) : tst op l m = List.replicate l.length zVal := by
 rw [List.eq_replicate_iff]
 refine ⟨tst_len _ _ _, fun v hv => ?_⟩
 obtain ⟨j, hj, rfl⟩ := List.mem_map.1 hv
 rw [vtest_op ho]
 rcases h j (List.mem_range.1 hj) with h | h
 ·rw [cdt h]
 ·rw [decide_eq_false h]; cases decide ((l.getD j zVal).kind = 0) <;> rfl
theorem test_run {op t u : Int} {l m : List Val} (ho : 1 ≤ op ∧ op ≤ 6) (h : Col t l) (k : Col u m) (hlm : l.length = m.length) (hl : l.length ≤ 1000) :
  F92.run [PK.v (Ty.int .i64), PK.v (Ty.nm 3), PK.v (Ty.nm 3)] [RK.v (Ty.nm 3)] 4000000 (op, vecOf t l, vecOf u m, ()) = some ((vecOf 1 (tst op l m), ()), ()) := by
 have hn := vec_len t l
 rw [F92_run, vec_type, vec_type, hn]
 by_cases h0 : t = 0
 ·rw [cdt h0, bnd (nulls_run (by unfold isTyp; omega) (by omega)), tst_null ho (fun i hi => .inl (by rcases (h.get hi).2 with e | e <;> omega))]
  rfl
 ·rw [cdf h0]
  by_cases h1 : t = u
  ·subst h1
   rw [decide_eq_true rfl, Bool.not_true, cf, show ∀ a b c d e f g, F92c3 4000000 a b c d e f g = _ from fun a b c d e f g => F92c3_eq 3999999 a b c d e f g, vec_type]
   by_cases h3 : t = 3
   ·subst h3
    rw [cdt rfl, bnd (compareT_run ho h k hlm hl)]
    rfl
   ·rw [cdf h3, bnd (compareI_run ho (num_typ h.typ h0 h3) h3 h0 h k hlm hl)]
    rfl
  ·rw [decide_eq_false h1, Bool.not_false, ct, bnd (nulls_run (by unfold isTyp; omega) (by omega)), tst_null ho (fun i hi => by
    have e1 := (h.get hi).2
    have e2 := (k.get (show i < m.length by omega)).2
    unfold fitsV at e1 e2
    omega)]
   rfl
/-! ## Gathering -/
def pick (l : List Val) (s : List Int) : List Val := s.map fun i => l.getD i.toNat zVal
theorem range_mapI {β : Type} (f : Int → β) (s : List Int) : (List.range s.length).map (fun j => f (s.getD j 0)) = s.map f := by
 apply List.ext_getElem
 ·simp
 ·intro i h1 h2
  simp only [List.length_map, List.length_range] at h1
  rw [List.getElem_map, List.getElem_map, List.getElem_range, getD_eq h1]
theorem gdz {α : Type} {z : Int} {L : Nat} (h0 : 0 ≤ z) (h : z < (L : Int)) (a b c : α) : (if (0 : Int) ≤ z then if z < (L : Int) then a else b else c) = a := by rw [if_pos h0, if_pos h]
theorem pickI_run {l : List Val} {s : List Int} (hs : ∀ i ∈ s, 0 ≤ i ∧ i < (l.length : Int)) (hl : s.length ≤ 1000) :
  F88.run [PK.v (Ty.int .i64).sl, PK.v (Ty.int .i64).sl] [RK.own 2 (Ty.int .i64)] 4000000 (l.map Val.int, s, ()) = some (((pick l s).map Val.int, ()), ()) := by
 rw [F88_run, show ∀ a b, F88c1 4000000 a b = _ from fun a b => F88c1_eq 3999999 a b, if_pos (by unfold lim; omega), Int.toNat_natCast]
 let R : Nat → Val := fun j => l.getD (s.getD j 0).toNat zVal
 have hR : (List.range s.length).map R = pick l s := range_mapI (fun i => l.getD i.toNat zVal) s
 obtain ⟨r, e1, rfl⟩ := loop (fun n i (x : List Val) => F88c3 n (l.map Val.int) s (s.length : Int) i (x.map Val.int)) s.length 2 0 (fun i x => x = upto zVal R s.length i) (fun r => r = (((pick l s).map Val.int, ()), ()))
  (fun n x _ hs => by
   subst hs
   exact ⟨_, by rw [F88c3_eq, cdf (by omega), upto_full, hR], rfl⟩)
  (fun n i x hi hx => by
   subst hx
   refine .inl ⟨n, _, Nat.le_refl _, ?_, rfl⟩
   obtain ⟨b1, b2⟩ := hs _ (getD_mem hi 0)
   have hb : (s.getD i 0).toNat < l.length := by omega
   rw [F88c3_eq, cdt (by omega), gd hi, Int.toNat_natCast, cdt b1, cdt (by rw [List.length_map]; exact b2), gdz b1 (by rw [List.length_map]; exact b2), gd (by simp only [List.length_map, upto_len]; omega), F88c7_eq, w1 (by omega), map_getD (e := zVal) hb, upto_put hi rfl]) s.length 3999999 0 (List.replicate s.length zVal) (by omega) (by omega) (by omega) (upto_zero ..).symm
 simp only [List.map_replicate] at e1
 exact e1
theorem pickT_run {l : List Val} {s : List Int} (hs : ∀ i ∈ s, 0 ≤ i ∧ i < (l.length : Int)) (hl : s.length ≤ 1000) :
  F89.run [PK.v Ty.str.sl, PK.v (Ty.int .i64).sl] [RK.own 9 Ty.str] 4000000 (l.map Val.text, s, ()) = some (((pick l s).map Val.text, ()), ()) := by
 rw [F89_run, show ∀ a b, F89c1 4000000 a b = _ from fun a b => F89c1_eq 3999999 a b, if_pos (by unfold lim; omega), Int.toNat_natCast]
 let R : Nat → Val := fun j => l.getD (s.getD j 0).toNat zVal
 have hR : (List.range s.length).map R = pick l s := range_mapI (fun i => l.getD i.toNat zVal) s
 obtain ⟨r, e1, rfl⟩ := loop (fun n i (x : List Val) => F89c3 n (l.map Val.text) s (s.length : Int) i (x.map Val.text)) s.length 2 0 (fun i x => x = upto zVal R s.length i) (fun r => r = (((pick l s).map Val.text, ()), ()))
  (fun n x _ hs => by
   subst hs
   exact ⟨_, by rw [F89c3_eq, cdf (by omega), upto_full, hR], rfl⟩)
  (fun n i x hi hx => by
   subst hx
   refine .inl ⟨n, _, Nat.le_refl _, ?_, rfl⟩
   obtain ⟨b1, b2⟩ := hs _ (getD_mem hi 0)
   have hb : (s.getD i 0).toNat < l.length := by omega
   rw [F89c3_eq, cdt (by omega), gd hi, Int.toNat_natCast, cdt b1, cdt (by rw [List.length_map]; exact b2), gdz b1 (by rw [List.length_map]; exact b2), gd (by simp only [List.length_map, upto_len]; omega), F89c7_eq, w1 (by omega), map_getD (e := zVal) hb, upto_put hi rfl]) s.length 3999999 0 (List.replicate s.length zVal) (by omega) (by omega) (by omega) (upto_zero ..).symm
 simp only [List.map_replicate] at e1
 exact e1
theorem gather_run {t : Int} {l : List Val} {s : List Int} (hs : ∀ i ∈ s, 0 ≤ i ∧ i < (l.length : Int)) (hl : s.length ≤ 1000) :
  F52.run [PK.v (Ty.nm 3), PK.v (Ty.int .i64).sl] [RK.v (Ty.nm 3)] 4000000 (vecOf t l, s, ()) = some ((vecOf t (pick l s), ()), ()) := by
 have hn := vec_len t l
 rw [F52_run, if_pos (by unfold lim; omega), Int.toNat_natCast, vec_type]
 let R : Nat → Val := fun j => l.getD (s.getD j 0).toNat zVal
 have hR : (List.range s.length).map R = pick l s := range_mapI (fun i => l.getD i.toNat zVal) s
 obtain ⟨r, e1, rfl⟩ := loop (fun n i (x : List Val) => F52c3 n s s (s.length : Int) i (vecOf t l) 0 t [] [] [] [] [] (x.map isN)) s.length 1 1 (fun i x => x = upto (vbool false) R s.length i) (fun r => r = ((vecOf t (pick l s), ()), ()))
  (fun n x hn1 hs' => by
   subst hs'
   obtain ⟨n, rfl⟩ : ∃ n', n = n' + 1 := ⟨n - 1, by omega⟩
   refine ⟨_, ?_, rfl⟩
   rw [F52c3_eq, cdf (by omega), upto_full, hR, vec_type]
   simp only [F52c13_eq]
   by_cases h1 : t = 1
   ·subst h1
    rw [cdt rfl, cdt rfl, vec_ints rfl, bnd (pickI_run hs hl)]
    rfl
   ·rw [cdf h1]
    by_cases h2 : t = 2
    ·subst h2
     rw [cdt rfl, vec_ints rfl, bnd (pickI_run hs hl)]
     rfl
    ·rw [cdf h2]
     by_cases h3 : t = 3
     ·subst h3
      rw [cdt rfl, vec_texts, bnd (pickT_run hs hl)]
      rfl
     ·rw [cdf h3]
      unfold vecOf isNum
      rw [decide_eq_false h1, decide_eq_false h2, decide_eq_false h3]
      rfl)
  (fun n i x hi hx => by
   subst hx
   refine .inl ⟨n, _, Nat.le_refl _, ?_, rfl⟩
   obtain ⟨b1, b2⟩ := hs _ (getD_mem hi 0)
   have hb : (s.getD i 0).toNat < l.length := by omega
   rw [F52c3_eq, cdt (by omega), gd hi, Int.toNat_natCast, cdf (by omega), cdf (by rw [hn]; omega), gdz b1 (by rw [hn]; exact b2), gd (by simp only [List.length_map, upto_len]; omega), w1 (by omega), vec_null hb, upto_put (f := isN) (R := R) (b := decide ((l.getD (s.getD i 0).toNat zVal).kind = 0)) hi rfl]) s.length 4000000 0 (List.replicate s.length (vbool false)) (by omega) (by omega) (by omega) (upto_zero ..).symm
 simp only [List.map_replicate] at e1
 exact e1
end Go.Proofs.Tryz
