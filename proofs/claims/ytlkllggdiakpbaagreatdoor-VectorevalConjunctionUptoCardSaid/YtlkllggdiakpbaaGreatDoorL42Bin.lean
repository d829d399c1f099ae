/- Law 42: binary operators, in, call over a scope. -/
import Derived.Test.YtlkllggdiakpbaaGreatDoorL42Scope
set_option linter.unusedVariables false
set_option linter.unusedSimpArgs false
namespace Go.Proofs.Tryz
open Go.Eng
theorem arg_get {r : List Val} {e : Ex} {i : Nat} (hi : i < e.args.length) : (e.args.map (ev r)).getD i zVal = ev r (e.args.getD i zEx) := map_getD (e := zEx) hi
/-! ## like -/
theorem likes_run {t u : Int} {l m : List Val} (g : G33) (h : Col t l) (k : Col u m) (hlm : l.length = m.length) (hl : l.length ≤ 1000) :
  F57c17 g 4000000 (l.length : Int) 0 0 t (vecOf t l).ints (vecOf t l).texts (vecOf t l).nulls u (vecOf u m).ints (vecOf u m).texts (vecOf u m).nulls 1 [] [] [] ((List.replicate l.length zVal).map Val.int) [] ((List.replicate l.length zVal).map isN) =
   some ((vecOf 1 ((List.range l.length).map fun j => vLike (l.getD j zVal) (m.getD j zVal)), ()), ()) := by
 let R : Nat → Val := fun j => vLike (l.getD j zVal) (m.getD j zVal)
 obtain ⟨r, e1, rfl⟩ := loop (fun n i (s : List Val) => F57c17 g n (l.length : Int) i 0 t (vecOf t l).ints (vecOf t l).texts (vecOf t l).nulls u (vecOf u m).ints (vecOf u m).texts (vecOf u m).nulls 1 [] [] [] (s.map Val.int) [] (s.map isN)) l.length 3 0 (fun i s => s = upto zVal R l.length i) (fun r => r = ((vecOf 1 ((List.range l.length).map R), ()), ()))
  (fun n s _ hs => by
   subst hs
   exact ⟨_, by rw [F57c17_eq, cdf (by omega), upto_full]; rfl, rfl⟩)
  (fun n i s hi hs => by
   subst hs
   suffices hx : ∃ n', n ≤ n' ∧ _ = F57c17 g n' (l.length : Int) ((i + 1 : Nat) : Int) 0 t (vecOf t l).ints (vecOf t l).texts (vecOf t l).nulls u (vecOf u m).ints (vecOf u m).texts (vecOf u m).nulls 1 [] [] [] ((upto zVal R l.length (i + 1)).map Val.int) [] ((upto zVal R l.length (i + 1)).map isN) from let ⟨n', q1, q2⟩ := hx; .inl ⟨n', _, q1, q2, rfl⟩
   have hi' : i < m.length := by omega
   obtain ⟨hv, hf⟩ := h.get hi
   obtain ⟨kv, kf⟩ := k.get hi'
   have g1 : i < ((upto zVal R l.length i).map isN).length := by simp only [List.length_map, upto_len]; omega
   have g2 : i < ((upto zVal R l.length i).map Val.int).length := by simp only [List.length_map, upto_len]; omega
   have a1 := at_run h hi
   have a2 := at_run k hi'
   rw [← vec_eta (vecOf t l)] at a1
   rw [← vec_eta (vecOf u m)] at a2
   rw [vec_type] at a1 a2
   rw [F57c17_eq, cdt (by omega), bnd a1, bnd a2]
   simp only [F57c24_eq, F57c21_eq, w1 (show i < 4611686018427387904 by omega), gd g1, gd g2, Int.toNat_natCast]
   have hJ : R i = vLike (l.getD i zVal) (m.getD i zVal) := rfl
   unfold vLike at hJ
   by_cases c1 : (l.getD i zVal).kind = 3
   ·rw [decide_eq_true c1, Bool.not_true, cf] at hJ ⊢
    by_cases c2 : (m.getD i zVal).kind = 3
    ·rw [decide_eq_true c2, Bool.not_true, cf] at hJ ⊢
     rw [bnd (like_run (valid_text kv) (valid_text hv))]
     simp only []
     cases hb : likeR (m.getD i zVal).text (l.getD i zVal).text with
     | true =>
      rw [hb] at hJ
      refine ⟨n, Nat.le_refl _, ?_⟩
      rw [ct, upto_put (f := Val.int) (R := R) (b := 1) hi (by rw [hJ]; rfl), upto_put (f := isN) (R := R) (b := false) hi (by rw [hJ]; rfl)]
     | false =>
      rw [hb] at hJ
      refine ⟨n, Nat.le_refl _, ?_⟩
      rw [cf, upto_keep (f := Val.int) (R := R) hi (by rw [hJ]; rfl), upto_put (f := isN) (R := R) (b := false) hi (by rw [hJ]; rfl)]
    ·rw [decide_eq_false c2, Bool.not_false, ct] at hJ ⊢
     refine ⟨n + 1, Nat.le_succ _, ?_⟩
     rw [upto_keep (f := Val.int) (R := R) hi (by rw [hJ]), upto_keep (f := isN) (R := R) hi (by rw [hJ])]
   ·rw [decide_eq_false c1, Bool.not_false, ct] at hJ ⊢
    refine ⟨n + 1, Nat.le_succ _, ?_⟩
    rw [upto_keep (f := Val.int) (R := R) hi (by rw [hJ]), upto_keep (f := isN) (R := R) hi (by rw [hJ])]) l.length 4000000 0 (List.replicate l.length zVal) (by omega) (by omega) (by omega) (upto_zero ..).symm
 exact e1
/-! ## binary -/
theorem binT_ops {op : Int} {l : List Int} {t : Int} (h : binT op l = (t, true)) : (1 ≤ op ∧ op ≤ 6 ∧ t = 1) ∨ (op = 7 ∧ t = 1) ∨ (op = 8 ∧ t = 1) ∨ (9 ≤ op ∧ op ≤ 13 ∧ t = 2) ∨ (op = 14 ∧ t = 3) ∨ (op = 15 ∧ t = 1) := by
 unfold binT at h
 cases c0 : decide ((l.length : Int) = 2) with
 | false => rw [c0] at h; cases (Prod.mk.inj h).2
 | true =>
  rw [c0, Bool.not_true, cf] at h
  cases c1 : (decide (1 ≤ op) && decide (op ≤ 6)) with
  | true =>
   rw [c1, ct] at h
   simp only [Bool.and_eq_true, decide_eq_true_eq] at c1
   exact .inl ⟨c1.1, c1.2, (Prod.mk.inj h).1.symm⟩
  | false =>
   rw [c1, cf] at h
   cases c2 : (decide (op = 7) || decide (op = 8)) with
   | true =>
    rw [c2, ct] at h
    simp only [Bool.or_eq_true, decide_eq_true_eq] at c2
    have := (Prod.mk.inj h).1
    omega
   | false =>
    rw [c2, cf] at h
    by_cases c3 : op = 14
    ·rw [cdt c3] at h; have := (Prod.mk.inj h).1; omega
    rw [cdf c3] at h
    by_cases c4 : op = 15
    ·rw [cdt c4] at h; have := (Prod.mk.inj h).1; omega
    rw [cdf c4] at h
    cases c5 : (decide (op < 9) || decide (13 < op)) with
    | true => rw [c5] at h; cases (Prod.mk.inj h).2
    | false =>
     rw [c5, cf] at h
     simp only [Bool.or_eq_false_iff, decide_eq_false_iff_not] at c5
     have := (Prod.mk.inj h).1
     omega
theorem vBin_test {op : Int} {a b : Val} (h : op ≤ 6) : vBin op a b = vtest op a b := by
 unfold vBin
 rw [cdf (by omega), cdf (by omega), decide_eq_false (show ¬ op = 9 by omega), decide_eq_false (show ¬ op = 10 by omega), decide_eq_false (show ¬ op = 11 by omega), decide_eq_false (show ¬ op = 12 by omega), decide_eq_false (show ¬ op = 13 by omega), cdf (by omega), cdf (by omega)]
 rfl
theorem vBin_arith {op : Int} {a b : Val} (h : 9 ≤ op) (h' : op ≤ 13) : vBin op a b = vArith op a b := by
 unfold vBin
 have : op = 9 ∨ op = 10 ∨ op = 11 ∨ op = 12 ∨ op = 13 := by omega
 rcases this with rfl | rfl | rfl | rfl | rfl <;> rfl
theorem binary_run {C : Tabl} {L : Nat} {g : G33} {e : Ex} {s : List Int} (h : Tab C L) (hs : Selc L s) (hw : WT (tys42 C) e) (hl : Lit e) (hk : e.kind = 5) (hg : ∀ a ∈ e.args, Sp C L g a) :
  (F57 g).run [PK.v (Ty.nm 4), PK.v (Ty.nm 1)] [RK.v (Ty.nm 3)] 4000000 (⟨cols C, s⟩, e, ()) = some ((vecOf e.f_Type (EV C s e), ()), ()) := by
 have h2 := hw.two hk
 have m0 := getD_mem (show 0 < e.args.length by omega) zEx
 have m1 := getD_mem (show 1 < e.args.length by omega) zEx
 have hb := hw.inv.2.1
 rw [bt5 hk] at hb
 have hops := binT_ops hb
 generalize ha : e.args.getD 0 zEx = a at m0
 generalize hbb : e.args.getD 1 zEx = b at m1
 have ca := EV_col h hs (hw.inv.2.2 a m0)
 have cb := EV_col h hs (hw.inv.2.2 b m1)
 have ga := EV_gv h hs (hw.inv.2.2 a m0) (hl.arg a m0)
 have gb := EV_gv h hs (hw.inv.2.2 b m1) (hl.arg b m1)
 have la := EV_len C s a
 have lb := EV_len C s b
 have hlen := hs.few
 have hev : ∀ r, ev r e = vBin e.op (ev r a) (ev r b) := fun r => by
  rw [ev_eq, evN, if_neg (by omega), if_neg (by omega), if_neg (by omega), if_neg (by omega), if_pos hk, arg_get (by omega), arg_get (by omega), ha, hbb]
 have hR : ∀ (F : Val → Val → Val), (∀ x y, vBin e.op x y = F x y) → (List.range s.length).map (fun j => F ((EV C s a).getD j zVal) ((EV C s b).getD j zVal)) = EV C s e := fun F hF => EV_range fun j hj => by
  rw [EV_get hj, EV_get hj, hev, hF]
 have hfit : ∀ j, j < s.length → fitsV e.f_Type (ev (rowOf C (s.getD j 0).toNat) e) := fun j hj => ev_kind (row_fit h (hs.get hj)) _ e (Nat.le_refl _) hw
 rw [F57_run, if_pos (by omega), show Int.toNat 0 = 0 from rfl, show Int.toNat 1 = 1 from rfl, ha, bnd (hg a m0 s hs), if_pos (by omega), hbb, bnd (hg b m1 s hs)]
 simp only [vec_eta]
 rcases hops with ⟨o1, o2, ot⟩ | ⟨o1, ot⟩ | ⟨o1, ot⟩ | ⟨o1, o2, ot⟩ | ⟨o1, ot⟩ | ⟨o1, ot⟩
 ·rw [cdt o2, bnd (test_run ⟨o1, o2⟩ ca cb (by omega) (by omega))]
  simp only [vec_eta]
  rw [ot, tst, la, hR (vtest e.op) (fun _ _ => vBin_test o2)]
 ·rw [cdf (by omega), cdt o1, bnd (junction_run (.inl rfl) ca cb (by omega) (by omega))]
  rw [la, hR (jun 0) (fun x y => by rw [o1]; rfl), ot]
  rfl
 ·rw [cdf (by omega), cdf (by omega), cdt o1, bnd (junction_run (.inr rfl) ca cb (by omega) (by omega))]
  rw [la, hR (jun 1) (fun x y => by rw [o1]; rfl), ot]
  rfl
 ·rw [cdf (by omega), cdf (by omega), cdf (by omega), cdt (by omega)]
  rw [bnd (buildAr_run (R := fun j => ev (rowOf C (s.getD j 0).toNat) e) (ca.typ.elim fun _ _ => by unfold isTyp; omega) hlen hfit (fun j hj => by
   rw [vec_eta, vec_eta, F94_run, bnd (at_run ca (by omega)), bnd (at_run cb (by omega))]
   simp only []
   have q1 := ga _ (getD_mem (show j < (EV C s a).length by omega) zVal)
   have q2 := gb _ (getD_mem (show j < (EV C s b).length by omega) zVal)
   rw [bnd (parith_run ⟨q1.lo, q1.hi⟩ ⟨q2.lo, q2.hi⟩), EV_get hj, EV_get hj, hev, vBin_arith o1 o2]))]
  simp only [vec_eta]
  rw [EV_range (fun j hj => rfl)]
 ·rw [cdf (by omega), cdf (by omega), cdf (by omega), cdf (by omega), cdt o1]
  rw [bnd (buildCat_run (R := fun j => ev (rowOf C (s.getD j 0).toNat) e) (ca.typ.elim fun _ _ => by unfold isTyp; omega) hlen hfit (fun j hj => by
   rw [vec_eta, vec_eta, F96_run, bnd (at_run ca (by omega)), bnd (at_run cb (by omega))]
   simp only []
   have q1 := valid_text (ga _ (getD_mem (show j < (EV C s a).length by omega) zVal)).valid
   have q2 := valid_text (gb _ (getD_mem (show j < (EV C s b).length by omega) zVal)).valid
   rw [bnd (pconcat_run (by omega) (by omega)), EV_get hj, EV_get hj, hev, o1]
   rfl))]
  simp only [vec_eta]
  rw [EV_range (fun j hj => rfl)]
 ·rw [cdf (by omega), cdf (by omega), cdf (by omega), cdf (by omega), cdf (by omega), bnd (nulls_run (by unfold isTyp; omega) (by omega))]
  simp only [tup, vec1, List.length_map, List.length_replicate, vec_type]
  have := likes_run g ca cb (by omega) (by omega)
  rw [la] at this
  rw [ot, ← hR vLike (fun x y => by rw [o1]; rfl)]
  exact this
end Go.Proofs.Tryz
