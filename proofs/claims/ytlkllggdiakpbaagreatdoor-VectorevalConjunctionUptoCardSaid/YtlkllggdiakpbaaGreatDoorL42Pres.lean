/- Law 42: values have the types that the nodes say. -/
import Derived.Test.YtlkllggdiakpbaaGreatDoorL42PEv
set_option linter.unusedVariables false
set_option linter.unusedSimpArgs false
namespace Go.Proofs.Tryz
open Go.Eng
structure FitR (ts : List Int) (r : List Val) : Prop where
 len : r.length = ts.length
 valid : ∀ v ∈ r, valid v = true
 kinds : ∀ i, i < ts.length → (r.getD i zVal).kind ≠ 0 → (r.getD i zVal).kind = ts.getD i 0
theorem and2x (a b : Val) : andL false [a, b] = (bif isF a then vbool false else bif isF b then vbool false else bif !isT a || !isT b then zVal else vbool true) := by
 simp only [andL, Bool.false_or]
theorem or2x (a b : Val) : orL false [a, b] = (bif isT a then vbool true else bif isT b then vbool true else bif !isF a || !isF b then zVal else vbool false) := by
 simp only [orL, Bool.false_or]
def KK (v : Val) (t : Int) : Prop := v.kind = 0 ∨ v.kind = t
theorem kk_z (t : Int) : KK zVal t := .inl rfl
theorem kk_b (b : Bool) : KK (vbool b) 1 := .inr rfl
theorem kk_test (op : Int) (a b : Val) : KK (vtest op a b) 1 := by
 unfold vtest
 cases decide (a.kind = 0) <;> cases decide (a.kind = b.kind) <;> cases decide (op < 1) <;> cases decide (6 < op) <;> first | exact kk_z _ | exact kk_b _
theorem kk_and : ∀ (l : List Val) (u : Bool), KK (andL u l) 1
 | [], u => by rw [andL]; cases u <;> first | exact kk_z _ | exact kk_b _
 | v :: l, u => by rw [andL]; cases isF v with
  | true => exact kk_b _
  | false => exact kk_and l _
theorem kk_or : ∀ (l : List Val) (u : Bool), KK (orL u l) 1
 | [], u => by rw [orL]; cases u <;> first | exact kk_z _ | exact kk_b _
 | v :: l, u => by rw [orL]; cases isT v with
  | true => exact kk_b _
  | false => exact kk_or l _
theorem kk_bin {op : Int} {l : List Int} {t : Int} (a b : Val) (h : binT op l = (t, true)) : KK (vBin op a b) t := by
 unfold binT at h
 unfold vBin
 by_cases h2 : (l.length : Int) = 2
 ·rw [decide_eq_true h2, Bool.not_true, cf] at h
  by_cases o7 : op = 7
  ·subst o7
   have : t = 1 := (Prod.mk.inj h).1.symm
   rw [this]; exact kk_and _ _
  by_cases o8 : op = 8
  ·subst o8
   have : t = 1 := (Prod.mk.inj h).1.symm
   rw [this]; exact kk_or _ _
  by_cases o14 : op = 14
  ·subst o14
   have : t = 3 := (Prod.mk.inj h).1.symm
   rw [this]
   show KK (vConcat a b) 3
   unfold vConcat
   cases decide (a.kind = 3) <;> cases decide (b.kind = 3) <;> cases decide (4096 < a.text.length + b.text.length) <;> first | exact .inl rfl | exact .inr rfl
  by_cases o15 : op = 15
  ·subst o15
   have : t = 1 := (Prod.mk.inj h).1.symm
   rw [this]
   show KK (vLike a b) 1
   unfold vLike
   cases decide (a.kind = 3) <;> cases decide (b.kind = 3) <;> first | exact kk_z _ | exact kk_b _
  by_cases o6 : 1 ≤ op ∧ op ≤ 6
  ·rw [decide_eq_true o6.1, decide_eq_true o6.2, Bool.and_true, ct] at h
   have : t = 1 := (Prod.mk.inj h).1.symm
   rw [this, decide_eq_false o7, decide_eq_false o8, decide_eq_false (show ¬ op = 9 by omega), decide_eq_false (show ¬ op = 10 by omega), decide_eq_false (show ¬ op = 11 by omega), decide_eq_false (show ¬ op = 12 by omega), decide_eq_false (show ¬ op = 13 by omega), decide_eq_false o14, decide_eq_false o15]
   exact kk_test _ _ _
  have e6 : (decide (1 ≤ op) && decide (op ≤ 6)) = false := by rw [← Bool.decide_and, decide_eq_false o6]
  rw [e6, cf, decide_eq_false o7, decide_eq_false o8, Bool.or_false, cf, decide_eq_false o14, cf, decide_eq_false o15, cf] at h
  by_cases o9 : op < 9 ∨ 13 < op
  ·have e9 : (decide (op < 9) || decide (13 < op)) = true := by rw [← Bool.decide_or, decide_eq_true o9]
   rw [e9, ct] at h
   cases (Prod.mk.inj h).2
  ·have e9 : (decide (op < 9) || decide (13 < op)) = false := by rw [← Bool.decide_or, decide_eq_false o9]
   rw [e9, cf] at h
   have : t = 2 := (Prod.mk.inj h).1.symm
   have e5 : (decide (op = 9) || (decide (op = 10) || (decide (op = 11) || (decide (op = 12) || decide (op = 13))))) = true := by
    simp only [Bool.or_eq_true, decide_eq_true_eq]; omega
   rw [this, decide_eq_false o7, decide_eq_false o8, e5]
   show KK (vArith op a b) 2
   unfold vArith
   cases decide (a.kind = 2) <;> cases decide (b.kind = 2) <;> cases (numV op a.int b.int).2 <;> first | exact .inl rfl | exact .inr rfl
 ·rw [decide_eq_false h2] at h
  cases (Prod.mk.inj h).2
theorem kk_choose : ∀ (l : List Val) (ty ws : List Int), caseV ty = some ws → ty.length = l.length → (∀ i, i < l.length → KK (l.getD i zVal) (ty.getD i 0)) → chooseV l = zVal ∨ ∃ t ∈ ws, KK (chooseV l) t
 | [], _, _, _, _, _ => .inl rfl
 | [x], [], _, _, hl, _ => by simp at hl
 | [x], [y], ws, h, _, hk => by
  rw [caseV] at h
  cases h
  exact .inr ⟨y, by simp, hk 0 (by simp)⟩
 | [x], _ :: _ :: _, _, _, hl, _ => by simp at hl
 | c :: v :: l, [], _, _, hl, _ => by simp at hl
 | c :: v :: l, [_], _, _, hl, _ => by simp at hl
 | c :: v :: l, a :: b :: q, ws, h, hl, hk => by
  rw [caseV] at h
  cases hc : compat a 1 with
  | false => rw [hc] at h; cases h
  | true =>
   rw [hc, ct] at h
   cases hr : caseV q with
   | none => rw [hr] at h; cases h
   | some vs =>
    rw [hr] at h
    cases h
    rw [chooseV]
    cases isT c with
    | true => exact .inr ⟨b, by simp, hk 1 (by simp)⟩
    | false =>
     rcases kk_choose l q vs hr (by simpa using hl) (fun i hi => hk (i + 2) (by simpa using hi)) with h | ⟨t, h1, h2⟩
     ·exact .inl h
     ·exact .inr ⟨t, by simp [h1], h2⟩
theorem kk_first : ∀ (l : List Val), firstN l = zVal ∨ firstN l ∈ l
 | [] => .inl rfl
 | v :: l => by
  rw [firstN]; cases decide (v.kind = 0) with
  | true => exact (kk_first l).imp id (List.mem_cons_of_mem _)
  | false => exact .inr (List.mem_cons_self ..)
theorem kk_ext (g : Bool) : ∀ (l : List Val) (o : Val), extL g o l = o ∨ extL g o l ∈ l
 | [], o => .inl rfl
 | v :: l, o => by
  rw [extL]
  rcases kk_ext g l (bif extB g v o then v else o) with h | h
  ·cases hb : extB g v o with
   | true => rw [hb, ct] at h; rw [ct, h]; exact .inr (List.mem_cons_self ..)
   | false => rw [hb, cf] at h; rw [cf]; exact .inl h
  ·exact .inr (List.mem_cons_of_mem _ h)
theorem kk_fix {x : List Int} (l : List Val) (h : (sigT x).2.2 = true) : KK (fixV x l) (sigT x).2.1 := by
 rcases sig_cases h with rfl | rfl | rfl | rfl | rfl | rfl | rfl
 ·exact .inr rfl
 ·exact .inr rfl
 ·exact .inr rfl
 ·exact .inr rfl
 ·rw [show fixV nAbs l = (bif decide ((l.getD 0 zVal).int = -9223372036854775808) then zVal else ⟨2, imax (l.getD 0 zVal).int (IntKind.i64.wrap (0 - (l.getD 0 zVal).int)), []⟩) from rfl]
  cases decide ((l.getD 0 zVal).int = -9223372036854775808) with
  | true => exact .inl rfl
  | false => exact .inr rfl
 ·exact .inr rfl
 ·exact .inr rfl
theorem kk_call {x : List Int} {l : List Val} {ty : List Int} {t : Int} (h : resT x ty = (t, true)) (hl : ty.length = l.length) (hk : ∀ i, i < l.length → KK (l.getD i zVal) (ty.getD i 0)) : KK (callV x l) t := by
 unfold resT at h
 by_cases h256 : 256 < (ty.length : Int)
 ·rw [cdt h256] at h; cases (Prod.mk.inj h).2
 rw [cdf h256, hl] at h
 unfold callV
 cases hg : genT x l.length with
 | true =>
  rw [hg, ct] at h
  rw [ct]
  have ha := ((comT_iff t ty 0).1 h).1
  have mem : ∀ v, v = zVal ∨ v ∈ l → KK v t := fun v hv => by
   rcases hv with rfl | hv
   ·exact kk_z _
   ·obtain ⟨i, hi, rfl⟩ := List.mem_iff_getElem.1 hv
    have h1 := hk i hi
    have h2 := ha _ (getD_mem (show i < ty.length by omega) 0)
    rw [getD_eq hi] at h1
    rcases h1 with h1 | h1
    ·exact .inl h1
    ·rcases h2 with h2 | h2
     ·exact .inl (h1.trans h2)
     ·exact .inr (h1.trans h2)
  have m0 : l.getD 0 zVal = zVal ∨ l.getD 0 zVal ∈ l := by
   rcases Nat.eq_zero_or_pos l.length with h0 | h0
   ·left; rw [List.eq_nil_of_length_eq_zero h0]; rfl
   ·exact .inr (getD_mem h0 _)
  cases decide (x = nNullif) with
  | true =>
   rw [ct]
   cases decide (vtest 1 (l.getD 0 zVal) (l.getD 1 zVal) = vbool true) with
   | true => exact kk_z _
   | false => exact mem _ m0
  | false => cases decide (x = nLeast) with
   | true => exact mem _ (kk_ext _ _ _)
   | false => cases decide (x = nGreatest) with
    | true => exact mem _ (kk_ext _ _ _)
    | false => exact mem _ (kk_first l)
 | false =>
  rw [hg, cf] at h
  rw [cf]
  cases hs : (sigT x).2.2 with
  | false => exact kk_z _
  | true =>
   rw [hs, Bool.not_true, cf] at h
   cases hp : decide (((sigT x).1.length : Int) = l.length) with
   | false => exact kk_z _
   | true =>
    rw [hp, Bool.not_true, cf] at h
    cases kindsOK l (sigT x).1 with
    | false => exact kk_z _
    | true =>
     cases hf : fitT ty (sigT x).1 with
     | false => rw [hf] at h; cases (Prod.mk.inj h).2
     | true =>
      rw [hf, ct] at h
      rw [← (Prod.mk.inj h).1]
      exact kk_fix l hs
theorem ev_kind {ts : List Int} {r : List Val} (hr : FitR ts r) : ∀ (k : Nat) (e : Ex), sz e ≤ k → WT ts e → KK (ev r e) e.f_Type
 | 0, e, h, _ => by have := sz_pos e; omega
 | k + 1, e, h, hw => by
  have hk := hw.kinds
  have hb := hw.inv.2.1
  have ha : ∀ i, i < (e.args.map (ev r)).length → KK ((e.args.map (ev r)).getD i zVal) ((e.args.map Ex.f_Type).getD i 0) := fun i hi => by
   rw [List.length_map] at hi
   have hm := getD_mem hi zEx
   rw [map_ty hi, getD_eq (by rw [List.length_map]; exact hi), List.getElem_map, ← getD_eq hi (d := zEx)]
   exact ev_kind hr k _ (by have := sz_arg hm; omega) (hw.inv.2.2 _ hm)
  have hlen : (e.args.map Ex.f_Type).length = (e.args.map (ev r)).length := by rw [List.length_map, List.length_map]
  rw [ev_eq]
  generalize e.args.map (ev r) = l at ha hlen
  generalize e.args.map Ex.f_Type = ty at hb ha hlen
  unfold btype at hb
  unfold evN
  by_cases h1 : e.kind = 1
  ·rw [cdt h1] at hb
   rw [if_pos h1]
   exact .inr (Prod.mk.inj hb).1
  rw [cdf h1] at hb
  rw [if_neg h1]
  by_cases h2 : e.kind = 2
  ·rw [cdt h2] at hb
   rw [if_pos h2]
   cases hc : (decide (e.slot < 0) || decide ((ts.length : Int) ≤ e.slot) || decide (0 < (ty.length : Int))) with
   | true => rw [hc, ct] at hb; cases (Prod.mk.inj hb).2
   | false =>
    rw [hc, cf] at hb
    simp only [Bool.or_eq_false_iff, decide_eq_false_iff_not] at hc
    have h8 := hr.len
    unfold atV
    rw [cdf hc.1.1, cdf (by omega)]
    by_cases h0 : (r.getD e.slot.toNat zVal).kind = 0
    ·exact .inl h0
    ·exact .inr ((hr.kinds _ (by omega) h0).trans (Prod.mk.inj hb).1)
  rw [cdf h2] at hb
  rw [if_neg h2]
  by_cases h3 : e.kind = 3
  ·rw [cdt h3] at hb
   rw [if_pos h3, ← (Prod.mk.inj hb).1]
   unfold vNot; cases decide ((l.getD 0 zVal).kind = 1) with
   | true => exact kk_b _
   | false => exact kk_z _
  rw [cdf h3] at hb
  rw [if_neg h3]
  by_cases h4 : e.kind = 4
  ·rw [cdt h4] at hb
   rw [if_pos h4, ← (Prod.mk.inj hb).1]
   unfold vNeg; cases decide ((l.getD 0 zVal).kind = 2) <;> cases decide ((l.getD 0 zVal).int = -9223372036854775808) <;> first | exact .inl rfl | exact .inr rfl
  rw [cdf h4] at hb
  rw [if_neg h4]
  by_cases h5 : e.kind = 5
  ·rw [cdt h5] at hb
   rw [if_pos h5]
   exact kk_bin _ _ hb
  rw [cdf h5] at hb
  rw [if_neg h5]
  by_cases h6 : e.kind = 6
  ·rw [cdt h6] at hb
   rw [if_pos h6, ← (Prod.mk.inj hb).1]
   exact kk_b _
  rw [cdf h6] at hb
  rw [if_neg h6]
  by_cases h7 : e.kind = 7
  ·rw [cdt h7] at hb
   rw [if_pos h7, ← (Prod.mk.inj hb).1]
   exact kk_or _ _
  rw [cdf h7] at hb
  rw [if_neg h7]
  by_cases h8 : e.kind = 8
  ·rw [cdt h8] at hb
   rw [if_pos h8]
   unfold caseT at hb
   by_cases hl : (ty.length : Int) < 2
   ·rw [cdt hl] at hb; cases (Prod.mk.inj hb).2
   ·rw [cdf hl] at hb
    cases hv : caseV ty with
    | none => rw [hv] at hb; cases (Prod.mk.inj hb).2
    | some ws =>
     rw [hv] at hb
     have hc := ((comT_iff e.f_Type ws 0).1 hb).1
     rcases kk_choose l ty ws hv hlen ha with h | ⟨t, t1, t2⟩
     ·rw [h]; exact kk_z _
     ·rcases t2 with t2 | t2
      ·exact .inl t2
      ·rcases hc t t1 with h | h
       ·exact .inl (t2.trans h)
       ·exact .inr (t2.trans h)
  rw [cdf h8] at hb
  rw [if_neg h8]
  by_cases h9 : e.kind = 9
  ·rw [cdt h9] at hb
   rw [if_pos h9]
   exact kk_call hb hlen ha
  ·omega
theorem b3 {v : Val} (hv : valid v = true) (hk : KK v 1) : v = zVal ∨ v = vbool false ∨ v = vbool true := by
 rcases hk with h | h
 ·exact .inl (valid_null hv h)
 ·exact .inr (valid_b2 hv h)
end Go.Proofs.Tryz
