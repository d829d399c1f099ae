/- Law 42: the evaluation over a scope is the evaluation row by row. -/
import Derived.Test.YtlkllggdiakpbaaGreatDoorL42Case2
set_option linter.unusedVariables false
set_option linter.unusedSimpArgs false
namespace Go.Proofs.Tryz
open Go.Eng
def upN (n : Nat) : List Int := (List.range n).map Int.ofNat
theorem upN_len (n : Nat) : (upN n).length = n := by simp [upN]
theorem upN_succ (n : Nat) : upN (n + 1) = upN n ++ [(n : Int)] := by unfold upN; rw [List.range_succ, List.map_append]; rfl
theorem mem_upN {n : Nat} {x : Int} : x ∈ upN n ↔ 0 ≤ x ∧ x < (n : Int) := by
 unfold upN
 rw [List.mem_map]
 constructor
 ·rintro ⟨j, hj, rfl⟩
  have := List.mem_range.1 hj
  exact ⟨Int.natCast_nonneg _, Int.ofNat_lt.2 this⟩
 ·intro ⟨h1, h2⟩
  exact ⟨x.toNat, List.mem_range.2 (by omega), by show ((x.toNat : Nat) : Int) = x; omega⟩
theorem cases_run {C : Tabl} {L : Nat} {g : G33} {e : Ex} {s : List Int} (h : Tab C L) (hs : Selc L s) (hw : WT (tys42 C) e) (hk : e.kind = 8) (hg : ∀ a ∈ e.args, Sp C L g a) :
  (F60 g).run [PK.v (Ty.nm 4), PK.v (Ty.nm 1)] [RK.v (Ty.nm 3)] 4000000 (⟨cols C, s⟩, e, ()) = some ((vecOf e.f_Type (EV C s e), ()), ()) := by
 have hflat := hw.inv.1.args
 have hlen := hs.few
 have hev : ∀ r, ev r e = chooseV (e.args.map (ev r)) := fun r => by
  rw [ev_eq, evN, if_neg (by omega), if_neg (by omega), if_neg (by omega), if_neg (by omega), if_neg (by omega), if_neg (by omega), if_neg (by omega), if_pos hk]
 have hall : F50.run [PK.v (Ty.int .i64)] [RK.own 3 (Ty.int .i64)] 4000000 ((s.length : Int), ()) = some (((upN s.length), ()), ()) := by
  rw [F50_run, show ∀ a, F50c1 4000000 a = _ from fun a => F50c1_eq 3999999 a]
  obtain ⟨r, e1, rfl⟩ := loop (fun n i (x : List Int) => F50c3 n (s.length : Int) i x) s.length 1 0 (fun i x => x = upN i) (fun r => r = (((upN s.length), ()), ()))
   (fun n x _ hx => by subst hx; exact ⟨_, by rw [F50c3_eq, cdf (by omega)], rfl⟩)
   (fun n i x hi hx => .inl ⟨n, x ++ [(i : Int)], Nat.le_refl _, by
    have : x.length = i := by rw [hx, upN_len]
    rw [F50c3_eq, cdt (by omega), if_pos (by unfold lim; omega), w1 (by omega)], by rw [hx, upN_succ]⟩) s.length 3999999 0 [] (by omega) (by omega) (by omega) rfl
  exact e1
 rw [F60_run]
 dsimp only
 rw [if_pos (by unfold lim; omega), bnd hall, Int.toNat_natCast]
 refine cases_k h hs (wt_typ (tab_typ h) _ e (Nat.le_refl _) hw) (fun j hj => ev_kind (row_fit h (hs.get hj)) _ e (Nat.le_refl _) hw) e.args.length 4000000 e.args _ _ (Nat.le_refl _) (by omega) (fun a ha => ⟨hw.inv.2.2 a ha, hg a ha⟩) ⟨by rw [upN_len]; exact hlen, fun p hp => mem_upN.1 hp⟩ (by simp) (fun j hj => ?_)
 ·constructor
  ·intro _
   refine ⟨by rw [hev]; rfl, ?_⟩
   rw [getD_eq (by simpa using hj), List.getElem_replicate]
  ·intro hn
   exact absurd (mem_upN.2 ⟨by omega, by omega⟩) hn
theorem eval_step {C : Tabl} {L : Nat} {g : G33} {e : Ex} (h : Tab C L) (hw : WT (tys42 C) e) (hl : Lit e) (hg : ∀ a ∈ e.args, Sp C L g a) :
  ∀ s, Selc L s → (F33 g).run [PK.v (Ty.nm 4), PK.v (Ty.nm 1)] [RK.v (Ty.nm 3)] 4000000 (⟨cols C, s⟩, e, ()) = some ((vecOf e.f_Type (EV C s e), ()), ()) := by
 intro s hs
 have hlen := hs.few
 have hkinds := hw.kinds
 have hT := wt_typ (tab_typ h) _ e (Nat.le_refl _) hw
 have hfit : ∀ j, j < s.length → fitsV e.f_Type (ev (rowOf C (s.getD j 0).toNat) e) := fun j hj => ev_kind (row_fit h (hs.get hj)) _ e (Nat.le_refl _) hw
 have hb := hw.inv.2.1
 rw [F33_run]
 dsimp only
 by_cases h1 : e.kind = 1
 ·have hev : ∀ r, ev r e = e.value := fun r => by rw [ev_eq, evN, if_pos h1]
  have hf : fitsV e.f_Type e.value := by
   unfold btype at hb
   rw [cdt h1] at hb
   exact .inr (Prod.mk.inj hb).1
  rw [cdt h1, bnd (const_run hT hf (by omega))]
  have : EV C s e = List.replicate s.length e.value := by
   rw [List.eq_replicate_iff]
   refine ⟨EV_len _ _ _, fun v hv => ?_⟩
   obtain ⟨i, _, rfl⟩ := List.mem_map.1 hv
   exact hev _
  rw [this]
  rfl
 rw [cdf h1]
 by_cases h2 : e.kind = 2
 ·unfold btype at hb
  rw [cdf h1, cdt h2] at hb
  cases hc : (decide (e.slot < 0) || decide (((tys42 C).length : Int) ≤ e.slot) || decide (0 < ((e.args.map Ex.f_Type).length : Int))) with
  | true => rw [hc, ct] at hb; cases (Prod.mk.inj hb).2
  | false =>
   rw [hc, cf] at hb
   simp only [Bool.or_eq_false_iff, decide_eq_false_iff_not] at hc
   have hcl : (tys42 C).length = C.length := List.length_map ..
   have hvl : (cols C).length = C.length := List.length_map ..
   have hj : e.slot.toNat < C.length := by omega
   have hm := getD_mem hj ((0 : Int), ([] : List Val))
   have ht := (Prod.mk.inj hb).1
   rw [ty_get hj] at ht
   have hev : ∀ i : Nat, ev (rowOf C i) e = (C.getD e.slot.toNat (0, [])).2.getD i zVal := fun i => by
    rw [ev_eq, evN, if_neg h1, if_pos h2]
    unfold atV
    rw [cdf hc.1.1, cdf (by rw [show (rowOf C i).length = C.length from List.length_map ..]; omega), row_get hj]
   have hcol : (cols C).getD e.slot.toNat zVec = vecOf (C.getD e.slot.toNat (0, [])).1 (C.getD e.slot.toNat (0, [])).2 := map_getD (e := (0, [])) hj
   rw [cdt h2, cdt (by omega), cdt (by rw [hvl]; omega), gdz (by omega) (by rw [hvl]; omega), hcol, bnd (gather_run (by rw [h.len _ hm]; exact hs.mem) hlen)]
   simp only [vec_eta]
   rw [ht]
   have : pick (C.getD e.slot.toNat (0, [])).2 s = EV C s e := List.map_congr_left (fun i _ => (hev i.toNat).symm)
   rw [this]
 rw [cdf h2]
 by_cases h3 : e.kind = 3
 ·have h0 := hw.one (.inl h3)
  have m0 := getD_mem (show 0 < e.args.length by omega) zEx
  have hev : ∀ r, ev r e = vNot (ev r (e.args.getD 0 zEx)) := fun r => by rw [ev_eq, evN, if_neg h1, if_neg h2, if_pos h3, arg_get (by omega)]
  have ht : e.f_Type = 1 := by
   unfold btype at hb
   rw [cdf h1, cdf h2, cdt h3] at hb
   exact (Prod.mk.inj hb).1.symm
  rw [cdt h3, if_pos (by omega), show Int.toNat 0 = 0 from rfl]
  generalize e.args.getD 0 zEx = a at m0 hev ⊢
  have ca := EV_col h hs (hw.inv.2.2 a m0)
  have la := EV_len C s a
  rw [bnd (hg a m0 s hs)]
  dsimp only
  rw [bnd (not_run ca (by omega))]
  simp only [vec_eta]
  rw [ht]
  have : (EV C s a).map vNot = EV C s e := by unfold EV; rw [List.map_map]; exact List.map_congr_left (fun i _ => (hev _).symm)
  rw [this]
 rw [cdf h3]
 by_cases h4 : e.kind = 4
 ·have h0 := hw.one (.inr (.inl h4))
  have m0 := getD_mem (show 0 < e.args.length by omega) zEx
  have hev : ∀ r, ev r e = vNeg (ev r (e.args.getD 0 zEx)) := fun r => by rw [ev_eq, evN, if_neg h1, if_neg h2, if_neg h3, if_pos h4, arg_get (by omega)]
  rw [cdt h4, if_pos (by omega), show Int.toNat 0 = 0 from rfl]
  generalize e.args.getD 0 zEx = a at m0 hev ⊢
  have ca := EV_col h hs (hw.inv.2.2 a m0)
  have la := EV_len C s a
  rw [bnd (hg a m0 s hs)]
  dsimp only
  rw [bnd (buildNeg_run (a := vecOf a.f_Type (EV C s a)) (R := fun j => ev (rowOf C (s.getD j 0).toNat) e) hT hlen hfit (fun j hj => by
   rw [vec_eta, F55_run, bnd (at_run ca (by omega))]
   dsimp only
   rw [bnd (pneg_run _), EV_get hj, hev]))]
  simp only [vec_eta]
  rw [EV_range (fun j hj => rfl)]
 rw [cdf h4]
 by_cases h5 : e.kind = 5
 ·rw [cdt h5, bnd (binary_run h hs hw hl h5 hg)]
  simp only [vec_eta]
 rw [cdf h5]
 by_cases h6 : e.kind = 6
 ·have h0 := hw.one (.inr (.inr h6))
  have m0 := getD_mem (show 0 < e.args.length by omega) zEx
  have hev : ∀ r, ev r e = vbool (decide ((ev r (e.args.getD 0 zEx)).kind = 0)) := fun r => by rw [ev_eq, evN, if_neg h1, if_neg h2, if_neg h3, if_neg h4, if_neg h5, if_pos h6, arg_get (by omega)]
  have ht : e.f_Type = 1 := by
   unfold btype at hb
   rw [cdf h1, cdf h2, cdf h3, cdf h4, cdf h5, cdt h6] at hb
   exact (Prod.mk.inj hb).1.symm
  rw [cdt h6, if_pos (by omega), show Int.toNat 0 = 0 from rfl]
  generalize e.args.getD 0 zEx = a at m0 hev ⊢
  have la := EV_len C s a
  rw [bnd (hg a m0 s hs)]
  dsimp only
  rw [bnd (isNull_run (by omega))]
  simp only [vec_eta]
  rw [ht]
  have : (EV C s a).map (fun v => vbool (decide (v.kind = 0))) = EV C s e := by unfold EV; rw [List.map_map]; exact List.map_congr_left (fun i _ => (hev _).symm)
  rw [this]
 rw [cdf h6]
 by_cases h7 : e.kind = 7
 ·rw [cdt h7, bnd (in_run h hs hw h7 hg)]
  simp only [vec_eta]
 rw [cdf h7]
 by_cases h8 : e.kind = 8
 ·rw [cdt h8, bnd (cases_run h hs hw h8 hg)]
  simp only [vec_eta]
 rw [cdf h8]
 by_cases h9 : e.kind = 9
 ·rw [cdt h9, bnd (call_run h hs hw hl h9 hg)]
  simp only [vec_eta]
 ·omega
theorem eval_k {C : Tabl} {L : Nat} (h : Tab C L) : ∀ (k : Nat) (e : Ex), sz e ≤ k → WT (tys42 C) e → Lit e → Sp C L (r33 k) e
 | 0, e, hk, _, _ => by have := sz_pos e; omega
 | k + 1, e, hk, hw, hl => fun s hs => by
  rw [r33_succ]
  exact eval_step h hw hl (fun a ha => eval_k h k a (by have := sz_arg ha; omega) (hw.inv.2.2 a ha) (hl.arg a ha)) s hs
theorem scope_run {C : Tabl} {L : Nat} {e : Ex} {s : List Int} (h : Tab C L) (hz : sz e ≤ 100000) (hw : WT (tys42 C) e) (hl : Lit e) (hs : Selc L s) : R33 (⟨cols C, s⟩, e, ()) = some ((vecOf e.f_Type (EV C s e), ()), ()) := eval_k h 100000 e hz hw hl s hs
end Go.Proofs.Tryz
