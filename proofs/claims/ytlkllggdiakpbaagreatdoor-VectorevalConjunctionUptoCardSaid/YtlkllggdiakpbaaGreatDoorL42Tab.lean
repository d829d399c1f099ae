/- Law 42: batches as tables of values; what an expression's column is. -/
import Derived.Test.YtlkllggdiakpbaaGreatDoorL42Build
set_option linter.unusedVariables false
set_option linter.unusedSimpArgs false
namespace Go.Proofs.Tryz
open Go.Eng
abbrev Tabl := List (Int × List Val)
structure Tab (C : Tabl) (L : Nat) : Prop where
 col : ∀ c ∈ C, Col c.1 c.2
 len : ∀ c ∈ C, c.2.length = L
 gv : ∀ c ∈ C, ∀ v ∈ c.2, GV v
def cols (C : Tabl) : List Vec := C.map fun c => vecOf c.1 c.2
def tys42 (C : Tabl) : List Int := C.map (·.1)
def rowOf (C : Tabl) (i : Nat) : List Val := C.map fun c => c.2.getD i zVal
structure Selc (L : Nat) (s : List Int) : Prop where
 few : s.length ≤ 1000
 mem : ∀ i ∈ s, 0 ≤ i ∧ i < (L : Int)
theorem Selc.get {L : Nat} {s : List Int} (h : Selc L s) {j : Nat} (hj : j < s.length) : (s.getD j 0).toNat < L := by
 have := h.mem _ (getD_mem hj 0); omega
theorem row_get {C : Tabl} {i j : Nat} (hj : j < C.length) : (rowOf C i).getD j zVal = (C.getD j (0, [])).2.getD i zVal := map_getD (e := (0, [])) hj
theorem ty_get {C : Tabl} {j : Nat} (hj : j < C.length) : (tys42 C).getD j 0 = (C.getD j (0, [])).1 := map_getD (e := (0, [])) hj
theorem row_gv {C : Tabl} {L i : Nat} (h : Tab C L) (hi : i < L) : ∀ v ∈ rowOf C i, GV v := fun v hv => by
 obtain ⟨c, hc, rfl⟩ := List.mem_map.1 hv
 exact h.gv c hc _ (getD_mem (by rw [h.len c hc]; exact hi) _)
theorem row_fit {C : Tabl} {L i : Nat} (h : Tab C L) (hi : i < L) : FitR (tys42 C) (rowOf C i) := by
 refine ⟨by simp [rowOf, tys42], fun v hv => (row_gv h hi v hv).valid, fun j hj h0 => ?_⟩
 rw [tys42, List.length_map] at hj
 rw [row_get hj] at h0 ⊢
 rw [ty_get hj]
 have hm := getD_mem hj (0, [])
 exact (((h.col _ hm).get (by rw [h.len _ hm]; exact hi)).2).resolve_left h0
theorem caseV_mem : ∀ (l ws : List Int), caseV l = some ws → ∀ t ∈ ws, t ∈ l
 | [], ws, h, t, ht => by cases h; exact ht
 | [x], ws, h, t, ht => by cases h; exact ht
 | c :: v :: r, ws, h, t, ht => by
  rw [caseV] at h
  cases hc : compat c 1 with
  | false => rw [hc] at h; cases h
  | true =>
   rw [hc, ct] at h
   obtain ⟨q, hq, rfl⟩ := Option.map_eq_some_iff.1 h
   rcases List.mem_cons.1 ht with rfl | ht
   ·simp
   ·exact List.mem_cons_of_mem _ (List.mem_cons_of_mem _ (caseV_mem r q hq t ht))
theorem wt_typ {ts : List Int} (ht : ∀ t ∈ ts, isTyp t) : ∀ (k : Nat) (e : Ex), sz e ≤ k → WT ts e → isTyp e.f_Type
 | 0, e, h, _ => by have := sz_pos e; omega
 | k + 1, e, h, hw => by
  have hb := hw.inv.2.1
  have ha : ∀ t ∈ e.args.map Ex.f_Type, isTyp t := fun t h1 => by
   obtain ⟨a, h2, rfl⟩ := List.mem_map.1 h1
   exact wt_typ ht k a (by have := sz_arg h2; omega) (hw.inv.2.2 a h2)
  have hl := e.args.length_map (f := Ex.f_Type)
  generalize e.args.map Ex.f_Type = l at hb ha hl
  have t0 : isTyp 0 := by unfold isTyp; omega
  have t1 : isTyp 1 := by unfold isTyp; omega
  have t2 : isTyp 2 := by unfold isTyp; omega
  have t3 : isTyp 3 := by unfold isTyp; omega
  have com : ∀ (l : List Int), (∀ t ∈ l, isTyp t) → ∀ r, comT 0 l = (r, true) → isTyp r := fun l hl r hr => by
   rcases ((comT_iff r l 0).1 hr).2.2 with h | h
   ·rw [h]; exact t0
   ·exact hl _ h
  unfold btype at hb
  by_cases h1 : e.kind = 1
  ·rw [cdt h1] at hb
   have hv := hw.lit h1
   rw [← (Prod.mk.inj hb).1]
   have := valid_kind hv
   unfold isTyp; omega
  rw [cdf h1] at hb
  by_cases h2 : e.kind = 2
  ·rw [cdt h2] at hb
   cases hc : (decide (e.slot < 0) || decide ((ts.length : Int) ≤ e.slot) || decide (0 < (l.length : Int))) with
   | true => rw [hc, ct] at hb; cases (Prod.mk.inj hb).2
   | false =>
    rw [hc, cf] at hb
    simp only [Bool.or_eq_false_iff, decide_eq_false_iff_not] at hc
    rw [← (Prod.mk.inj hb).1]
    exact ht _ (getD_mem (by omega) 0)
  rw [cdf h2] at hb
  by_cases h3 : e.kind = 3
  ·rw [cdt h3] at hb; rw [← (Prod.mk.inj hb).1]; exact t1
  rw [cdf h3] at hb
  by_cases h4 : e.kind = 4
  ·rw [cdt h4] at hb; rw [← (Prod.mk.inj hb).1]; exact t2
  rw [cdf h4] at hb
  by_cases h5 : e.kind = 5
  ·rw [cdt h5] at hb
   unfold binT at hb
   cases c0 : decide ((l.length : Int) = 2) <;> cases c1 : (decide (1 ≤ e.op) && decide (e.op ≤ 6)) <;> cases c2 : (decide (e.op = 7) || decide (e.op = 8)) <;> cases c3 : decide (e.op = 14) <;> cases c4 : decide (e.op = 15) <;> cases c5 : (decide (e.op < 9) || decide (13 < e.op)) <;>
    rw [c0, c1, c2, c3, c4, c5] at hb <;> rw [← (Prod.mk.inj hb).1] <;> assumption
  rw [cdf h5] at hb
  by_cases h6 : e.kind = 6
  ·rw [cdt h6] at hb; rw [← (Prod.mk.inj hb).1]; exact t1
  rw [cdf h6] at hb
  by_cases h7 : e.kind = 7
  ·rw [cdt h7] at hb; rw [← (Prod.mk.inj hb).1]; exact t1
  rw [cdf h7] at hb
  by_cases h8 : e.kind = 8
  ·rw [cdt h8] at hb
   unfold caseT at hb
   by_cases hl2 : (l.length : Int) < 2
   ·rw [cdt hl2] at hb; rw [← (Prod.mk.inj hb).1]; exact t0
   ·rw [cdf hl2] at hb
    cases hv : caseV l with
    | none => rw [hv] at hb; rw [← (Prod.mk.inj hb).1]; exact t0
    | some ws =>
     rw [hv] at hb
     exact com ws (fun t h => ha t (caseV_mem l ws hv t h)) _ hb
  rw [cdf h8] at hb
  by_cases h9 : e.kind = 9
  ·rw [cdt h9] at hb
   unfold resT at hb
   by_cases h256 : 256 < (l.length : Int)
   ·rw [cdt h256] at hb; cases (Prod.mk.inj hb).2
   rw [cdf h256] at hb
   cases hg : genT e.name l.length with
   | true => rw [hg, ct] at hb; exact com l ha _ hb
   | false =>
    rw [hg, cf] at hb
    cases hs : (sigT e.name).2.2 with
    | false => rw [hs] at hb; cases (Prod.mk.inj hb).2
    | true =>
     rw [hs, Bool.not_true, cf] at hb
     have : isTyp (sigT e.name).2.1 := by
      rcases sig_cases hs with h | h | h | h | h | h | h <;> rw [h] <;> (first | exact t1 | exact t2 | exact t3)
     cases hp : decide (((sigT e.name).1.length : Int) = l.length) with
     | false => rw [hp] at hb; cases (Prod.mk.inj hb).2
     | true =>
      rw [hp, Bool.not_true, cf] at hb
      cases hf : fitT l (sigT e.name).1 with
      | false => rw [hf] at hb; cases (Prod.mk.inj hb).2
      | true => rw [hf, ct] at hb; rw [← (Prod.mk.inj hb).1]; exact this
  ·rw [cdf h9] at hb; cases (Prod.mk.inj hb).2
noncomputable def EV (C : Tabl) (s : List Int) (e : Ex) : List Val := s.map fun i => ev (rowOf C i.toNat) e
theorem EV_len (C : Tabl) (s : List Int) (e : Ex) : (EV C s e).length = s.length := by simp [EV]
theorem EV_get {C : Tabl} {s : List Int} {e : Ex} {j : Nat} (hj : j < s.length) : (EV C s e).getD j zVal = ev (rowOf C (s.getD j 0).toNat) e := map_getD (e := 0) hj
theorem tab_typ {C : Tabl} {L : Nat} (h : Tab C L) : ∀ t ∈ tys42 C, isTyp t := fun t ht => by
 obtain ⟨c, hc, rfl⟩ := List.mem_map.1 ht
 exact (h.col c hc).typ
theorem EV_col {C : Tabl} {L : Nat} {s : List Int} {e : Ex} (h : Tab C L) (hs : Selc L s) (hw : WT (tys42 C) e) : Col e.f_Type (EV C s e) := by
 refine ⟨wt_typ (tab_typ h) _ e (Nat.le_refl _) hw, fun v hv => ?_, fun v hv => ?_⟩
 ·obtain ⟨i, hi, rfl⟩ := List.mem_map.1 hv
  have := hs.mem i hi
  exact ev_valid (fun v hv => (row_gv h (by omega) v hv).valid) _ e (Nat.le_refl _) hw
 ·obtain ⟨i, hi, rfl⟩ := List.mem_map.1 hv
  have := hs.mem i hi
  exact ev_kind (row_fit h (by omega)) _ e (Nat.le_refl _) hw
theorem EV_gv {C : Tabl} {L : Nat} {s : List Int} {e : Ex} (h : Tab C L) (hs : Selc L s) (hw : WT (tys42 C) e) (hl : Lit e) : ∀ v ∈ EV C s e, GV v := fun v hv => by
 obtain ⟨i, hi, rfl⟩ := List.mem_map.1 hv
 have := hs.mem i hi
 exact ev_gv (row_gv h (by omega)) hw hl
theorem EV_range {C : Tabl} {s : List Int} {e : Ex} {F : Nat → Val} (h : ∀ j, j < s.length → F j = ev (rowOf C (s.getD j 0).toNat) e) : (List.range s.length).map F = EV C s e := by
 apply List.ext_getElem
 ·simp [EV]
 ·intro i h1 h2
  simp only [List.length_map, List.length_range] at h1
  rw [List.getElem_map, List.getElem_range, h i h1]
  simp only [EV, List.getElem_map]
  rw [getD_eq h1]
end Go.Proofs.Tryz
