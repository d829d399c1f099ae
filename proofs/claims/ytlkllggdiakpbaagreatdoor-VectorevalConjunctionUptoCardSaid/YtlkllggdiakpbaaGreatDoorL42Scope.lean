/- Law 42: the evaluation over a scope: rows, scatter, binary, in, call. -/
import Derived.Test.YtlkllggdiakpbaaGreatDoorL42Tab
set_option linter.unusedVariables false
set_option linter.unusedSimpArgs false
namespace Go.Proofs.Tryz
open Go.Eng
def Sp (C : Tabl) (L : Nat) (g : G33) (e : Ex) : Prop := ∀ s, Selc L s → g (⟨cols C, s⟩, e, ()) = some ((vecOf e.f_Type (EV C s e), ()), ())
theorem vec_eta (v : Vec) : Vec.mk v.f_Type v.ints v.texts v.nulls = v := by cases v; rfl
/-! ## rows -/
def sub (s pos : List Int) : List Int := pos.map fun p => s.getD p.toNat 0
theorem sub_len (s pos : List Int) : (sub s pos).length = pos.length := by simp [sub]
theorem sub_get {s pos : List Int} {j : Nat} (hj : j < pos.length) : (sub s pos).getD j 0 = s.getD (pos.getD j 0).toNat 0 := map_getD (e := 0) hj
def Posn (n : Nat) (pos : List Int) : Prop := pos.length ≤ 1000 ∧ ∀ p ∈ pos, 0 ≤ p ∧ p < (n : Int)
theorem sub_sel {L : Nat} {s pos : List Int} (hs : Selc L s) (hp : Posn s.length pos) : Selc L (sub s pos) := by
 refine ⟨by rw [sub_len]; exact hp.1, fun i hi => ?_⟩
 obtain ⟨p, h1, rfl⟩ := List.mem_map.1 hi
 have := hp.2 p h1
 exact hs.mem _ (getD_mem (by omega) 0)
theorem rows_run {V : List Vec} {s pos : List Int} (hp : Posn s.length pos) :
  F99.run [PK.v (Ty.int .i64).sl, PK.rp (Ty.nm 4)] [RK.v (Ty.nm 4)] 4000000 (pos, ⟨V, s⟩, ()) = some ((⟨V, sub s pos⟩, ()), ()) := by
 have h1 := hp.1
 rw [F99_run, if_pos (by unfold lim; omega), Int.toNat_natCast]
 let R : Nat → Val := fun j => intV (s.getD (pos.getD j 0).toNat 0)
 have hR : ((List.range pos.length).map R).map Val.int = sub s pos := by
  rw [List.map_map]
  exact range_mapI (fun p => s.getD p.toNat 0) pos
 obtain ⟨r, e1, rfl⟩ := loop (fun n i (x : List Val) => F99c3 n ⟨V, s⟩ pos (pos.length : Int) i zScope (x.map Val.int)) pos.length 1 0 (fun i x => x = upto zVal R pos.length i) (fun r => r = ((⟨V, sub s pos⟩, ()), ()))
  (fun n x _ hx => by
   subst hx
   exact ⟨_, by rw [F99c3_eq, cdf (by omega), upto_full, hR], rfl⟩)
  (fun n i x hi hx => by
   subst hx
   refine .inl ⟨n, _, Nat.le_refl _, ?_, rfl⟩
   obtain ⟨b1, b2⟩ := hp.2 _ (getD_mem hi 0)
   rw [F99c3_eq, cdt (by omega), gd hi, Int.toNat_natCast, gdz b1 b2, gd (by simp only [List.length_map, upto_len]; exact hi), w1 (by omega)]
   simp only []
   rw [upto_put (f := Val.int) (R := R) (b := s.getD (pos.getD i 0).toNat 0) hi rfl]) pos.length 4000000 0 (List.replicate pos.length zVal) (by omega) (by omega) (by omega) (upto_zero ..).symm
 simp only [List.map_replicate] at e1
 exact e1
/-! ## scatter -/
theorem mem_take_succ {l : List Int} {i : Nat} (hi : i < l.length) (x : Int) : x ∈ l.take (i + 1) ↔ x ∈ l.take i ∨ x = l.getD i 0 := by
 rw [List.take_succ_eq_append_getElem hi, List.mem_append, List.mem_singleton, getD_eq hi]
theorem getD_setV {l : List Val} {i j : Nat} {v : Val} (hi : i < l.length) : (l.set i v).getD j zVal = if i = j then v else l.getD j zVal := by
 rw [List.getD_eq_getElem?_getD, List.getD_eq_getElem?_getD, List.getElem?_set]
 by_cases h : i = j
 ·subst h; simp [hi]
 ·simp [h]
theorem scatter_run {C : Tabl} {L : Nat} {g : G33} {a : Ex} {s pos : List Int} {out : List Val} (h : Tab C L) (hs : Selc L s) (hw : WT (tys42 C) a) (hg : Sp C L g a) (hp : Posn s.length pos) (ho : out.length = s.length) :
  ∃ out', (F100 g).run [PK.v (Ty.int .i64).sl, PK.v (Ty.nm 1), PK.bc [CK.f 99 [(4 : Nat)]], PK.bc [CK.o 23 (Ty.nm 0)], PK.bw (Ty.nm 4)] [] 4000000 (pos, a, ((), ()), (out, ()), ⟨cols C, s⟩, ()) = some ((), (((), ()), ((out', ()), (⟨cols C, s⟩, ())))) ∧
   out'.length = s.length ∧ ∀ j, j < s.length → out'.getD j zVal = if (j : Int) ∈ pos then ev (rowOf C (s.getD j 0).toNat) a else out.getD j zVal := by
 have h1 := hp.1
 have hs' := sub_sel hs hp
 have hc := EV_col h hs' hw
 rw [F100_run, bnd (rows_run hp), bnd (hg _ hs')]
 simp only []
 obtain ⟨r, e1, out', rfl, k1, k2⟩ := loop (fun n i (x : List Val) => F100c3 g n pos (pos.length : Int) i (vecOf a.f_Type (EV C (sub s pos) a)).f_Type (vecOf a.f_Type (EV C (sub s pos) a)).ints (vecOf a.f_Type (EV C (sub s pos) a)).texts (vecOf a.f_Type (EV C (sub s pos) a)).nulls x ⟨cols C, s⟩) pos.length 1 0
  (fun i x => x.length = s.length ∧ ∀ j, j < s.length → x.getD j zVal = if (j : Int) ∈ pos.take i then ev (rowOf C (s.getD j 0).toNat) a else out.getD j zVal)
  (fun r => ∃ out', r = ((), (((), ()), ((out', ()), (⟨cols C, s⟩, ())))) ∧ out'.length = s.length ∧ ∀ j, j < s.length → out'.getD j zVal = if (j : Int) ∈ pos then ev (rowOf C (s.getD j 0).toNat) a else out.getD j zVal)
  (fun n x _ hx => by
   rw [List.take_length] at hx
   exact ⟨_, by rw [F100c3_eq, cdf (by omega)], x, rfl, hx.1, hx.2⟩)
  (fun n i x hi hx => by
   obtain ⟨b1, b2⟩ := hp.2 _ (getD_mem hi 0)
   have hE : i < (EV C (sub s pos) a).length := by rw [EV_len, sub_len]; exact hi
   refine .inl ⟨n, x.set (pos.getD i 0).toNat ((EV C (sub s pos) a).getD i zVal), Nat.le_refl _, ?_, by rw [List.length_set]; exact hx.1, fun j hj => ?_⟩
   ·rw [F100c3_eq, cdt (by omega), gd hi, vec_eta, bnd (at_run hc hE), Int.toNat_natCast, gdz b1 (by rw [hx.1]; exact b2), w1 (by omega)]
   ·rw [getD_setV (by rw [hx.1]; omega), hx.2 j hj]
    by_cases e : (pos.getD i 0).toNat = j
    ·rw [if_pos e, if_pos ((mem_take_succ hi _).2 (.inr (by omega))), EV_get (by rw [sub_len]; exact hi), sub_get hi, e]
    ·rw [if_neg e]
     by_cases m : (j : Int) ∈ pos.take i
     ·rw [if_pos m, if_pos ((mem_take_succ hi _).2 (.inl m))]
     ·rw [if_neg m, if_neg (fun m' => by rcases (mem_take_succ hi _).1 m' with m' | m'; exact m m'; exact e (by omega))]) pos.length 4000000 0 out (by omega) (by omega) (by omega) ⟨ho, fun j hj => by simp⟩
 exact ⟨out', e1, k1, k2⟩
end Go.Proofs.Tryz
