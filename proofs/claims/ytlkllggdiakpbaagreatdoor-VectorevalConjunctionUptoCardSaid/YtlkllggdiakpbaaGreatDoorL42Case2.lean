/- Law 42: call, case over a scope. -/
import Derived.Test.YtlkllggdiakpbaaGreatDoorL42Case
set_option linter.unusedVariables false
set_option linter.unusedSimpArgs false
namespace Go.Proofs.Tryz
open Go.Eng
/-! ## call -/
theorem callAt_run {C : Tabl} {L : Nat} {e : Ex} {s : List Int} {j : Nat} (h : Tab C L) (hs : Selc L s) (hw : WT (tys42 C) e) (hl : Lit e) (hk : e.kind = 9) (hj : j < s.length) :
  F102.run [PK.v (Ty.int .i64), PK.rp (Ty.nm 3).sl, PK.rp (Ty.nm 1)] [RK.v (Ty.nm 0)] 4000000 ((j : Int), e.args.map (fun a => vecOf a.f_Type (EV C s a)), e, ()) = some ((ev (rowOf C (s.getD j 0).toNat) e, ()), ()) := by
 have hflat := hw.inv.1.args
 have hev : ev (rowOf C (s.getD j 0).toNat) e = callV e.name (e.args.map (ev (rowOf C (s.getD j 0).toNat))) := by
  rw [ev_eq, evN, if_neg (by omega), if_neg (by omega), if_neg (by omega), if_neg (by omega), if_neg (by omega), if_neg (by omega), if_neg (by omega), if_neg (by omega), if_pos hk]
 have hgv : ∀ v ∈ e.args.map (ev (rowOf C (s.getD j 0).toNat)), GV v := fun v hv => by
  obtain ⟨a, ha, rfl⟩ := List.mem_map.1 hv
  exact ev_gv (row_gv h (hs.get hj)) (hw.inv.2.2 a ha) (hl.arg a ha)
 rw [F102_run, List.length_map, if_pos (by unfold lim; omega), Int.toNat_natCast]
 let R : Nat → Val := fun k => ev (rowOf C (s.getD j 0).toNat) (e.args.getD k zEx)
 have hR : (List.range e.args.length).map R = e.args.map (ev (rowOf C (s.getD j 0).toNat)) := by
  apply List.ext_getElem
  ·simp
  ·intro i h1 h2
   simp only [List.length_map, List.length_range] at h1
   simp only [R, List.getElem_map, List.getElem_range, getD_eq h1]
 obtain ⟨r, e1, rfl⟩ := loop (fun n i (x : List Val) => F102c3 n (j : Int) e (e.args.map (fun a => vecOf a.f_Type (EV C s a))) (e.args.length : Int) i zVal x) e.args.length 1 0 (fun i x => x = upto zVal R e.args.length i) (fun r => r = ((ev (rowOf C (s.getD j 0).toNat) e, ()), ()))
  (fun n x _ hx => by
   subst hx
   refine ⟨_, ?_, rfl⟩
   rw [F102c3_eq, cdf (by omega), upto_full, hR, bnd (pcall_run (hw.name hk) (by rw [List.length_map]; omega) hgv), hev])
  (fun n i x hi hx => by
   subst hx
   refine .inl ⟨n, _, Nat.le_refl _, ?_, rfl⟩
   have hm := getD_mem hi zEx
   have hc := EV_col h hs (hw.inv.2.2 _ hm)
   rw [F102c3_eq, cdt (by omega), gd (by rw [List.length_map]; exact hi), vec_eta, Int.toNat_natCast, map_getD (e := zEx) hi, bnd (at_run hc (by rw [EV_len]; exact hj)), gd (by rw [upto_len]; exact hi), w1 (by omega), EV_get hj]
   simp only []
   rw [upto_set (R := R) hi]) e.args.length 4000000 0 (List.replicate e.args.length zVal) (by omega) (by omega) (by omega) (upto_zero ..).symm
 exact e1
theorem call_run {C : Tabl} {L : Nat} {g : G33} {e : Ex} {s : List Int} (h : Tab C L) (hs : Selc L s) (hw : WT (tys42 C) e) (hl : Lit e) (hk : e.kind = 9) (hg : ∀ a ∈ e.args, Sp C L g a) :
  (F61 g).run [PK.v (Ty.nm 4), PK.v (Ty.nm 1)] [RK.v (Ty.nm 3)] 4000000 (⟨cols C, s⟩, e, ()) = some ((vecOf e.f_Type (EV C s e), ()), ()) := by
 have hflat := hw.inv.1.args
 have hlen := hs.few
 rw [F61_run]
 obtain ⟨r, e1, rfl⟩ := loop (fun n i (x : List Vec) => F61c3 g n e.args (e.args.length : Int) i ⟨cols C, s⟩ e 0 [] [] [] x) e.args.length 1 0 (fun i x => x = (e.args.take i).map (fun a => vecOf a.f_Type (EV C s a))) (fun r => r = ((vecOf e.f_Type (EV C s e), ()), ()))
  (fun n x _ hx => by
   rw [List.take_length] at hx
   subst hx
   refine ⟨_, ?_, rfl⟩
   rw [F61c3_eq, cdf (by omega), bnd (buildCall_run (R := fun j => ev (rowOf C (s.getD j 0).toNat) e) (wt_typ (tab_typ h) _ e (Nat.le_refl _) hw) hlen (fun j hj => ev_kind (row_fit h (hs.get hj)) _ e (Nat.le_refl _) hw) (fun j hj => callAt_run h hs hw hl hk hj))]
   simp only [vec_eta]
   rw [EV_range (fun j hj => rfl)])
  (fun n i x hi hx => by
   have hm := getD_mem hi zEx
   have hxl : x.length = i := by rw [hx, List.length_map, List.length_take]; omega
   refine .inl ⟨n, x ++ [vecOf (e.args.getD i zEx).f_Type (EV C s (e.args.getD i zEx))], Nat.le_refl _, ?_, ?_⟩
   ·rw [F61c3_eq, cdt (by omega), gd hi, Int.toNat_natCast, bnd (hg _ hm s hs), if_pos (by unfold lim; omega), w1 (by omega)]
   ·rw [List.take_succ_eq_append_getElem hi, List.map_append, hx, ← getD_eq hi (d := zEx)]; rfl) e.args.length 4000000 0 [] (by omega) (by omega) (by omega) rfl
 exact e1
/-! ## case -/
noncomputable def W (C : Tabl) (s : List Int) (l : List Ex) (j : Nat) : Val := chooseV (l.map (ev (rowOf C (s.getD j 0).toNat)))
theorem tv_one {v : Val} (h : valid v = true) : decide (tv v = 1) = isT v := by
 rcases tv_cases h with ⟨h1, h2⟩ | ⟨h1, h2⟩ | ⟨h1, h2⟩
 ·rw [h2]; unfold isT; rw [decide_eq_false h1]; rfl
 ·rw [h2, h1]; rfl
 ·rw [h2, h1]; rfl
theorem cases_k {C : Tabl} {L : Nat} {g : G33} {e : Ex} {s : List Int} (h : Tab C L) (hs : Selc L s) (hT : isTyp e.f_Type) (hfit : ∀ j, j < s.length → fitsV e.f_Type (ev (rowOf C (s.getD j 0).toNat) e)) :
  ∀ (m n : Nat) (l : List Ex) (left : List Int) (out : List Val), l.length ≤ m → 2000 * m + 10 ≤ n → (∀ a ∈ l, WT (tys42 C) a ∧ Sp C L g a) → Posn s.length left → out.length = s.length →
   (∀ j, j < s.length → ((j : Int) ∈ left → W C s l j = ev (rowOf C (s.getD j 0).toNat) e ∧ out.getD j zVal = zVal) ∧ ((j : Int) ∉ left → out.getD j zVal = ev (rowOf C (s.getD j 0).toNat) e)) →
   F60c6 g n l e 0 left [] [] [] out ⟨cols C, s⟩ = some ((vecOf e.f_Type (EV C s e), ()), ())
 | m, n, l, left, out, hm, hn, hl, hp, ho, inv => by
  have hlen := hs.few
  have fin : ∀ (n : Nat) (o : List Val), 1 ≤ n → o.length = s.length → (∀ j, j < s.length → o.getD j zVal = ev (rowOf C (s.getD j 0).toNat) e) → F60c21 g n e 0 [] [] [] o = some ((vecOf e.f_Type (EV C s e), ()), ()) := by
   intro n o hn hol hoj
   obtain ⟨n, rfl⟩ : ∃ n', n = n' + 1 := ⟨n - 1, by omega⟩
   rw [F60c21_eq, hol, bnd (buildOut_run (out := o) (R := fun j => ev (rowOf C (s.getD j 0).toNat) e) hT hlen hfit (fun j hj => by
    rw [F101_run, gd (by omega), Int.toNat_natCast, hoj j hj]))]
   simp only [vec_eta]
   rw [EV_range (fun j hj => rfl)]
  match l, hm, hl, inv with
  | [], hm, hl, inv =>
   obtain ⟨n, rfl⟩ : ∃ n', n = n' + 1 := ⟨n - 1, by omega⟩
   rw [F60c6_eq, cdf (by decide), cdf (by decide)]
   refine fin _ _ (by omega) ho (fun j hj => ?_)
   by_cases hjl : (j : Int) ∈ left
   ·obtain ⟨h1, h2⟩ := (inv j hj).1 hjl
    rw [h2, ← h1]; rfl
   ·exact (inv j hj).2 hjl
  | [x], hm, hl, inv =>
   obtain ⟨n, rfl⟩ : ∃ n', n = n' + 1 := ⟨n - 1, by omega⟩
   obtain ⟨hwx, hgx⟩ := hl x (by simp)
   obtain ⟨out', e1, e2, e3⟩ := scatter_run h hs hwx hgx hp ho
   rw [F60c6_eq, cdf (by simp), cdt (by simp), if_pos (by simp), show List.getD [x] (Int.toNat 0) zEx = x from rfl, bnd e1]
   simp only []
   refine fin _ _ (by omega) e2 (fun j hj => ?_)
   rw [e3 j hj]
   by_cases hjl : (j : Int) ∈ left
   ·rw [if_pos hjl, ← ((inv j hj).1 hjl).1]; rfl
   ·rw [if_neg hjl]; exact (inv j hj).2 hjl
  | c :: v :: r, hm, hl, inv =>
   obtain ⟨n, rfl⟩ : ∃ n', n = n' + 1 := ⟨n - 1, by omega⟩
   obtain ⟨hwc, hgc⟩ := hl c (by simp)
   obtain ⟨hwv, hgv⟩ := hl v (by simp)
   have hs' := sub_sel hs hp
   have hc := EV_col h hs' hwc
   have h1 := hp.1
   have hlc : (EV C (sub s left) c).length = left.length := by rw [EV_len, sub_len]
   rw [F60c6_eq, cdt (by simp; omega), bnd (rows_run hp), if_pos (by simp; omega), show List.getD (c :: v :: r) (Int.toNat 0) zEx = c from rfl, bnd (hgc _ hs')]
   simp only []
   have hm' : r.length + 2 ≤ m := by simpa using hm
   let P : Int → Bool := fun p => isT (ev (rowOf C (s.getD p.toNat 0).toNat) c)
   obtain ⟨q, e1, e2⟩ := loop (fun n i (x : List Int × List Int) => F60c11 g n (c :: v :: r) (left.length : Int) i e 0 (vecOf c.f_Type (EV C (sub s left) c)).f_Type (vecOf c.f_Type (EV C (sub s left) c)).ints (vecOf c.f_Type (EV C (sub s left) c)).texts (vecOf c.f_Type (EV C (sub s left) c)).nulls x.1 x.2 left [] [] [] out ⟨cols C, s⟩) left.length 1 (2000 * r.length + 10)
    (fun i x => x.1 = (left.take i).filter P ∧ x.2 = (left.take i).filter (fun p => !P p)) (fun q => q = ((vecOf e.f_Type (EV C s e), ()), ()))
    (fun k x hk hx => by
     rw [List.take_length] at hx
     obtain ⟨x1, x2⟩ := x
     obtain ⟨hx1, hx2⟩ := hx
     simp only at hx1 hx2
     subst hx1 hx2
     refine ⟨_, ?_, rfl⟩
     have sub1 : ∀ (f : Int → Bool), Posn s.length (left.filter f) := fun f => ⟨Nat.le_trans (List.length_filter_le _ _) hp.1, fun p hp' => hp.2 p (List.mem_filter.1 hp').1⟩
     obtain ⟨out', e1, e2, e3⟩ := scatter_run h hs hwv hgv (sub1 P) ho
     rw [F60c11_eq, cdf (by omega), if_pos (by simp; omega), show List.getD (c :: v :: r) (Int.toNat 1) zEx = v from rfl, bnd e1, if_pos (by simp; omega), if_pos (by omega), show List.drop (Int.toNat 2) (List.take (((c :: v :: r).length : Int)).toNat (c :: v :: r)) = r from by rw [Int.toNat_natCast, List.take_length]; rfl]
     simp only []
     refine cases_k h hs hT hfit r.length k r _ out' (Nat.le_refl _) (by omega) (fun a ha => hl a (by simp [ha])) (sub1 _) e2 (fun j hj => ?_)
     rw [e3 j hj]
     have hPj : P (j : Int) = isT (ev (rowOf C (s.getD j 0).toNat) c) := by show isT _ = _; rw [Int.toNat_natCast]
     constructor
     ·intro hm2
      obtain ⟨m1, m2⟩ := List.mem_filter.1 hm2
      obtain ⟨w1', w2⟩ := (inv j hj).1 m1
      have hPf : P (j : Int) = false := by simpa using m2
      rw [if_neg (fun hm3 => by have := (List.mem_filter.1 hm3).2; rw [hPf] at this; cases this)]
      refine ⟨?_, w2⟩
      rw [← w1']
      unfold W
      rw [List.map_cons, List.map_cons, chooseV, ← hPj, hPf, cf]
     ·intro hm2
      by_cases hjl : (j : Int) ∈ left
      ·have hPt : P (j : Int) = true := by
        cases hb : P (j : Int) with
        | true => rfl
        | false => exact absurd (List.mem_filter.2 ⟨hjl, by rw [hb]; rfl⟩) hm2
       rw [if_pos (List.mem_filter.2 ⟨hjl, hPt⟩), ← ((inv j hj).1 hjl).1]
       unfold W
       rw [List.map_cons, List.map_cons, chooseV, ← hPj, hPt, ct]
      ·rw [if_neg (fun hm3 => hjl (List.mem_filter.1 hm3).1)]
       exact (inv j hj).2 hjl)
    (fun k i x hi hx => by
     obtain ⟨x1, x2⟩ := x
     obtain ⟨hx1, hx2⟩ := hx
     simp only at hx1 hx2
     subst hx1 hx2
     have hPi : isT ((EV C (sub s left) c).getD i zVal) = P (left.getD i 0) := by
      rw [EV_get (by rw [sub_len]; exact hi), sub_get hi]
     have l1 : ∀ f : Int → Bool, ((left.take i).filter f).length ≤ 1000 := fun f => Nat.le_trans (List.length_filter_le _ _) (by rw [List.length_take]; omega)
     have hv := (hc.get (show i < _ by rw [hlc]; exact hi)).1
     have tk : ∀ f : Int → Bool, (left.take (i + 1)).filter f = (left.take i).filter f ++ (bif f (left.getD i 0) then [left.getD i 0] else []) := fun f => by
      rw [List.take_succ_eq_append_getElem hi, List.filter_append, getD_eq hi]
      cases hf : f left[i] <;> simp [hf]
     refine .inl ⟨k, ((left.take (i + 1)).filter P, (left.take (i + 1)).filter fun p => !P p), Nat.le_refl _, ?_, rfl, rfl⟩
     rw [F60c11_eq, cdt (by omega), gd hi, vec_eta, bnd (truth_run hc (show i < _ by rw [hlc]; exact hi))]
     simp only []
     rw [tv_one hv, hPi, w1 (by omega), Int.toNat_natCast, tk P, tk (fun p => !P p), if_pos (by have := l1 P; unfold lim; omega), if_pos (by have := l1 (fun p => !P p); unfold lim; omega)]
     cases hb : P (left.getD i 0) with
     | true => simp [hb]
     | false => simp [hb]) left.length n 0 ([], []) (by omega) (by omega) (by omega) ⟨by simp, by simp⟩
   rw [e2] at e1
   exact e1
termination_by m n l => l.length
decreasing_by all_goals simp_wf; omega
end Go.Proofs.Tryz
