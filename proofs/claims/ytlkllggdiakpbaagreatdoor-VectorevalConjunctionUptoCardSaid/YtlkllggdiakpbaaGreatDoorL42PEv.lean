/- Law 42: the program's evaluation is the reference's. -/
import Derived.Test.YtlkllggdiakpbaaGreatDoorL42PCall
set_option linter.unusedVariables false
set_option linter.unusedSimpArgs false
namespace Go.Proofs.Tryz
open Go.Eng
theorem pgen_run (x : List Int) (n : Nat) : F131.run [PK.v Ty.str, PK.v (Ty.int .i64)] [RK.v Ty.bool, RK.v Ty.bool] 4000000 (x, (n : Int), ()) = some ((isGen x, genT x n, ()), ()) := by
 rw [show F131.run [PK.v Ty.str, PK.v (Ty.int .i64)] [RK.v Ty.bool, RK.v Ty.bool] 4000000 (x, (n : Int), ()) = _ from F131_run _ _ _, show ([99, 111, 97, 108, 101, 115, 99, 101] : List Int) = nCoalesce from rfl, show ([108, 101, 97, 115, 116] : List Int) = nLeast from rfl, show ([103, 114, 101, 97, 116, 101, 115, 116] : List Int) = nGreatest from rfl, show ([110, 117, 108, 108, 105, 102] : List Int) = nNullif from rfl]
 unfold isGen genT
 by_cases h1 : x = nCoalesce
 ·subst h1; rfl
 by_cases h2 : x = nLeast
 ·subst h2; rfl
 by_cases h3 : x = nGreatest
 ·subst h3; rfl
 rw [decide_eq_false h1, decide_eq_false h2, decide_eq_false h3]
 cases decide (x = nNullif) <;> cases decide ((n : Int) = 2) <;> rfl
theorem gen_not {x : List Int} {n : Nat} (h : isGen x = false) : genT x n = false := by
 unfold isGen at h
 unfold genT
 revert h
 cases decide (x = nCoalesce) <;> cases decide (x = nLeast) <;> cases decide (x = nGreatest) <;> cases decide (x = nNullif) <;> simp
theorem gen_sig {x : List Int} (h : isGen x = true) : (sigT x).2.2 = false := by
 unfold isGen at h
 rw [Bool.or_eq_true, Bool.or_eq_true, Bool.or_eq_true, decide_eq_true_eq, decide_eq_true_eq, decide_eq_true_eq, decide_eq_true_eq] at h
 rcases h with rfl | rfl | rfl | rfl <;> decide
theorem sig_pos {x : List Int} (h : (sigT x).2.2 = true) : (sigT x).1.length ≠ 0 := by
 rcases sig_cases h with rfl | rfl | rfl | rfl | rfl | rfl | rfl <;> decide
theorem pcall_run {x : List Int} {l : List Val} (hx : isGen x = true ∨ (sigT x).2.2 = true) (hl : l.length ≤ 1000000) (ht : ∀ v ∈ l, GV v) : F103.run [PK.v Ty.str, PK.v (Ty.nm 0).sl] [RK.v (Ty.nm 0)] 4000000 (x, l, ()) = some ((callV x l, ()), ()) := by
 have t0 : Int.toNat 0 = 0 := rfl
 have t1 : Int.toNat 1 = 1 := rfl
 have hv : ∀ v ∈ l, valid v = true := fun v h => (ht v h).valid
 rw [show F103.run [PK.v Ty.str, PK.v (Ty.nm 0).sl] [RK.v (Ty.nm 0)] 4000000 (x, l, ()) = _ from F103_run _ _ _, bnd (pgen_run x l.length)]
 unfold callV
 cases hi : isGen x with
 | true =>
  cases hg : genT x l.length with
  | false => rw [gen_sig hi]; rfl
  | true =>
   simp only []
   rw [ct, Bool.not_true, cf, ct, show ([110, 117, 108, 108, 105, 102] : List Int) = nNullif from rfl, show ([108, 101, 97, 115, 116] : List Int) = nLeast from rfl, show ([103, 114, 101, 97, 116, 101, 115, 116] : List Int) = nGreatest from rfl]
   by_cases hn : x = nNullif
   ·have h2 : l.length = 2 := by
     unfold genT at hg
     rw [decide_eq_true hn, hn] at hg
     simp only [Bool.true_and, Bool.or_eq_true, decide_eq_true_eq] at hg
     rcases hg with hg | hg
     ·omega
     ·rw [show (decide (nNullif = nCoalesce) || decide (nNullif = nLeast) || decide (nNullif = nGreatest)) = false by decide] at hg
      cases hg
    rw [cdt hn, cdt hn, if_pos (by omega), if_pos (by omega), if_pos (by omega), t0, t1, bnd (ptest_run (valid_get hv 0) (valid_get hv 1))]
    simp only [val_lit]
    rw [show (⟨1, 1, []⟩ : Val) = vbool true from rfl]
    cases decide (vtest 1 (l.getD 0 zVal) (l.getD 1 zVal) = vbool true) <;> rfl
   ·rw [cdf hn, cdf hn, bnd (show F133.run [PK.v (Ty.nm 0).sl, PK.v (Ty.int .i64)] [RK.v (Ty.nm 0)] 4000000 (l, -1, ()) = _ from pext_run (g := false) hl hv), bnd (show F133.run [PK.v (Ty.nm 0).sl, PK.v (Ty.int .i64)] [RK.v (Ty.nm 0)] 4000000 (l, 1, ()) = _ from pext_run (g := true) hl hv)]
    by_cases h1 : x = nLeast
    ·rw [cdt h1, cdt h1]
    ·rw [cdf h1, cdf h1]
     by_cases h2 : x = nGreatest
     ·rw [cdt h2, cdt h2]
     ·rw [cdf h2, cdf h2]
      obtain ⟨r, e, rfl⟩ := loop (fun k i (_ : Unit) => F103c15 k l (l.length : Nat) i zVal) l.length 1 0 (fun i _ => firstN (l.drop i) = firstN l) (fun r => r = ((firstN l, ()), ()))
       (fun k _ _ hx => ⟨((zVal, ()), ()), by rw [F103c15_eq, cdf (by omega)], by rw [← hx, List.drop_length]; rfl⟩)
       (fun k i _ hi hx => by
        rw [drop_consV hi, firstN] at hx
        rw [F103c15_eq, cdt (by omega), gd hi, Int.toNat_natCast, w1 (by omega)]
        cases h0 : decide ((l.getD i zVal).kind = 0) with
        | true => rw [h0] at hx; exact .inl ⟨k, (), Nat.le_refl _, rfl, hx⟩
        | false => rw [h0] at hx; exact .inr ⟨_, rfl, by rw [← hx]; rfl⟩) l.length 4000000 0 () (by omega) (by omega) (by omega) (by rw [List.drop_zero])
      exact e
 | false =>
  have hs : (sigT x).2.2 = true := by
   rcases hx with h | h
   ·rw [hi] at h; cases h
   ·exact h
  have hp := sig_pos hs
  rw [gen_not hi, hs]
  simp only []
  rw [cf, cf, Bool.not_true, cf, bnd (psig_run x)]
  simp only []
  rw [if_neg hp]
  by_cases h : ((sigT x).1.length : Int) = l.length
  ·rw [decide_eq_true h, Bool.not_true, cf, cf, show F103c24 4000000 x l zVal (sigT x).1 = _ from F103c24_eq 3999999 x l zVal (sigT x).1]
   obtain ⟨r, e, rfl⟩ := loop (fun k i (_ : Unit) => F103c25 k x l l (l.length : Nat) i zVal (sigT x).1) l.length 1 0 (fun i _ => kindsOK (l.drop i) ((sigT x).1.drop i) = kindsOK l (sigT x).1) (fun r => r = ((bif kindsOK l (sigT x).1 then fixV x l else zVal, ()), ()))
    (fun k _ _ hx => by
     rw [List.drop_length] at hx
     refine ⟨_, by rw [F103c25_eq, cdf (by omega), bnd (pfix_run hs (by omega) ht)], ?_⟩
     rw [← hx]; rfl)
    (fun k i _ hi hx => by
     have hi' : i < (sigT x).1.length := by omega
     rw [drop_consV hi, drop_cons hi', kindsOK] at hx
     rw [F103c25_eq, cdt (by omega), gd hi, gd hi', Int.toNat_natCast, w1 (by omega)]
     cases h0 : decide ((l.getD i zVal).kind = (sigT x).1.getD i 0) with
     | true => rw [h0] at hx; exact .inl ⟨k, (), Nat.le_refl _, rfl, hx⟩
     | false => rw [h0] at hx; exact .inr ⟨_, rfl, by rw [← hx]; rfl⟩) l.length 3999999 0 () (by omega) (by omega) (by omega) rfl
   exact e
  ·rw [decide_eq_false h]; rfl
/-! ## Parts in range -/
structure RV (v : Val) : Prop where
 int : inR v.int
 bytes : ∀ b ∈ v.text, 0 ≤ b ∧ b < 256
theorem gv_mk {v : Val} (h : valid v = true) (r : RV v) : GV v := ⟨h, r.int.1, r.int.2, r.bytes⟩
theorem GV.rv {v : Val} (h : GV v) : RV v := ⟨⟨h.lo, h.hi⟩, h.bytes⟩
theorem inR0 : inR 0 := by unfold inR; omega
theorem rv_z : RV zVal := ⟨inR0, fun b h => by cases h⟩
theorem rv_b (b : Bool) : RV (vbool b) := ⟨by cases b <;> (show inR _) <;> unfold inR <;> decide, fun b h => by cases h⟩
theorem rv_i {n : Int} (h : inR n) : RV (intV n) := ⟨h, fun b h => by cases h⟩
theorem rv_t {t : List Int} (h : ∀ b ∈ t, 0 ≤ b ∧ b < 256) : RV ⟨3, 0, t⟩ := ⟨inR0, h⟩
theorem rv_get {l : List Val} (h : ∀ v ∈ l, RV v) (i : Nat) : RV (l.getD i zVal) := by
 rcases Nat.lt_or_ge i l.length with hi | hi
 ·exact h _ (getD_mem hi _)
 ·rw [List.getD_eq_getElem?_getD, List.getElem?_eq_none hi]; exact rv_z
theorem rv_at {r : List Val} (h : ∀ v ∈ r, RV v) (i : Int) : RV (atV r i) := by
 unfold atV
 cases decide (i < 0) with
 | true => exact rv_z
 | false => cases decide ((r.length : Int) ≤ i) with
  | true => exact rv_z
  | false => exact rv_get h _
theorem rv_test (op : Int) (a b : Val) : RV (vtest op a b) := by
 unfold vtest
 cases decide (a.kind = 0) <;> cases decide (a.kind = b.kind) <;> cases decide (op < 1) <;> cases decide (6 < op) <;> first | exact rv_z | exact rv_b _
theorem rv_and : ∀ (l : List Val) (u : Bool), RV (andL u l)
 | [], u => by rw [andL]; cases u <;> first | exact rv_z | exact rv_b _
 | v :: l, u => by rw [andL]; cases isF v with
  | true => exact rv_b _
  | false => exact rv_and l _
theorem rv_or : ∀ (l : List Val) (u : Bool), RV (orL u l)
 | [], u => by rw [orL]; cases u <;> first | exact rv_z | exact rv_b _
 | v :: l, u => by rw [orL]; cases isT v with
  | true => exact rv_b _
  | false => exact rv_or l _
theorem rv_choose : ∀ (l : List Val), (∀ v ∈ l, RV v) → RV (chooseV l)
 | [], _ => rv_z
 | [x], h => h x (by simp)
 | c :: v :: l, h => by
  rw [chooseV]; cases isT c with
  | true => exact h v (by simp)
  | false => exact rv_choose l (fun w hw => h w (by simp [hw]))
theorem rv_first : ∀ (l : List Val), (∀ v ∈ l, RV v) → RV (firstN l)
 | [], _ => rv_z
 | v :: l, h => by
  rw [firstN]; cases decide (v.kind = 0) with
  | true => exact rv_first l (fun w hw => h w (by simp [hw]))
  | false => exact h v (by simp)
theorem rv_ext (g : Bool) : ∀ (l : List Val) (o : Val), RV o → (∀ v ∈ l, RV v) → RV (extL g o l)
 | [], o, ho, _ => ho
 | v :: l, o, ho, h => by
  rw [extL]
  refine rv_ext g l _ ?_ (fun w hw => h w (by simp [hw]))
  cases extB g v o with
  | true => exact h v (by simp)
  | false => exact ho
theorem tmod_rng {a b : Int} (ha : inR a) : inR (a.tmod b) := by
 have h1 : (a.tmod b).natAbs = a.natAbs % b.natAbs := Int.natAbs_tmod _ _
 have h2 : a.natAbs % b.natAbs ≤ a.natAbs := Nat.mod_le _ _
 have h3 : 0 ≤ a → 0 ≤ a.tmod b := fun h => Int.tmod_nonneg _ h
 have h4 : a.tmod b = -((-a).tmod b) := by rw [Int.neg_tmod]; omega
 have h5 : a ≤ 0 → 0 ≤ (-a).tmod b := fun h => Int.tmod_nonneg _ (by omega)
 unfold inR at *
 omega
theorem num_rng {op a b : Int} (ha : inR a) : inR (numV op a b).1 := by
 have hw : ∀ z, inR (IntKind.i64.wrap z) := wrap_rng
 unfold numV
 cases decide (op = 9) with
 | true => exact hw _
 | false => cases decide (op = 10) with
  | true => exact hw _
  | false => cases decide (op = 11) with
   | true =>
    show inR (mulV a b).1
    unfold mulV
    cases (decide (a = 0) || decide (b = 0)) with
    | true => exact inR0
    | false => cases decide (a = -1) with
     | true => exact hw _
     | false => cases decide (b = -1) <;> exact hw _
   | false => cases decide (op = 12) with
    | true =>
     simp only [cf, ct]
     cases decide (b = 0) with
     | true => exact inR0
     | false => cases (decide (a = -9223372036854775808) && decide (b = -1)) with
      | true => exact inR0
      | false => exact hw _
    | false => cases decide (op = 13) with
     | true =>
      simp only [cf, ct]
      cases decide (b = 0) with
      | true => exact inR0
      | false => cases decide (b = -1) with
       | true => exact inR0
       | false => exact tmod_rng ha
     | false => exact inR0
theorem rv_arith {op : Int} {a b : Val} (ha : RV a) : RV (vArith op a b) := by
 unfold vArith
 cases decide (a.kind = 2) <;> cases decide (b.kind = 2) <;> cases (numV op a.int b.int).2 <;> first | exact rv_z | exact rv_i (num_rng ha.int)
theorem rv_bin {op : Int} {a b : Val} (ha : RV a) (hb : RV b) : RV (vBin op a b) := by
 unfold vBin
 cases decide (op = 7) with
 | true => exact rv_and _ _
 | false => cases decide (op = 8) with
  | true => exact rv_or _ _
  | false => cases (decide (op = 9) || (decide (op = 10) || (decide (op = 11) || (decide (op = 12) || decide (op = 13))))) with
   | true => exact rv_arith ha
   | false => cases decide (op = 14) with
    | true =>
     show RV (vConcat a b)
     unfold vConcat
     cases decide (a.kind = 3) <;> cases decide (b.kind = 3) <;> cases decide (4096 < a.text.length + b.text.length) <;> first | exact rv_z | exact rv_t (fun x h => (List.mem_append.1 h).elim (ha.bytes x) (hb.bytes x))
    | false => cases decide (op = 15) with
     | true =>
      show RV (vLike a b)
      unfold vLike
      cases decide (a.kind = 3) <;> cases decide (b.kind = 3) <;> first | exact rv_z | exact rv_b _
     | false => exact rv_test _ _ _
theorem imax_rng {a b : Int} (ha : inR a) (hb : inR b) : inR (imax a b) := by unfold imax; split <;> assumption
theorem rv_fix (x : List Int) {l : List Val} (hv : ∀ v ∈ l, valid v = true) (h : ∀ v ∈ l, RV v) : RV (fixV x l) := by
 have t0 := valid_text (valid_get hv 0)
 have r0 := rv_get h 0
 unfold fixV
 cases decide (x = nLength) with
 | true => exact rv_i (by unfold inR; omega)
 | false => cases decide (x = nUpper) with
  | true => exact rv_t (map_bytes (hi := 122) t0 rfl)
  | false => cases decide (x = nLower) with
   | true => exact rv_t (map_bytes (hi := 90) t0 rfl)
   | false => cases decide (x = nSubstr) with
    | true => exact rv_t (part_bytes r0.bytes _ _ (fun b h => by cases h))
    | false => cases decide (x = nAbs) with
     | true =>
      simp only [cf, ct]
      cases decide ((l.getD 0 zVal).int = -9223372036854775808) with
      | true => exact rv_z
      | false => exact rv_i (imax_rng r0.int (wrap_rng _))
     | false => cases decide (x = nParity) with
      | true => exact rv_i (by unfold bits; exact wrap_rng _)
      | false => exact rv_b _
theorem rv_call (x : List Int) {l : List Val} (hv : ∀ v ∈ l, valid v = true) (h : ∀ v ∈ l, RV v) : RV (callV x l) := by
 unfold callV
 cases genT x l.length with
 | true =>
  rw [ct]
  cases decide (x = nNullif) with
  | true =>
   rw [ct]
   cases decide (vtest 1 (l.getD 0 zVal) (l.getD 1 zVal) = vbool true) with
   | true => exact rv_z
   | false => exact rv_get h 0
  | false => cases decide (x = nLeast) with
   | true => exact rv_ext _ _ _ rv_z h
   | false => cases decide (x = nGreatest) with
    | true => exact rv_ext _ _ _ rv_z h
    | false => exact rv_first l h
 | false =>
  rw [cf]
  cases (sigT x).2.2 with
  | false => exact rv_z
  | true => cases decide (((sigT x).1.length : Int) = l.length) with
   | false => exact rv_z
   | true => cases kindsOK l (sigT x).1 with
    | false => exact rv_z
    | true => exact rv_fix x hv h
inductive Lit : Ex → Prop
 | mk {e : Ex} (v : RV e.value) (args : ∀ a ∈ e.args, Lit a) : Lit e
theorem Lit.val {e : Ex} (h : Lit e) : RV e.value := by cases h with | mk a b => exact a
theorem Lit.arg {e : Ex} (h : Lit e) : ∀ a ∈ e.args, Lit a := by cases h with | mk a b => exact b
theorem ev_rv {ts : List Int} {r : List Val} (hr : ∀ v ∈ r, GV v) : ∀ (k : Nat) (e : Ex), sz e ≤ k → WT ts e → Lit e → RV (ev r e)
 | 0, e, h, _, _ => by have := sz_pos e; omega
 | k + 1, e, h, hw, hl => by
  have hrv : ∀ v ∈ r, valid v = true := fun v h => (hr v h).valid
  have ha : ∀ v ∈ e.args.map (ev r), RV v := fun v hv => by
   obtain ⟨a, ha, rfl⟩ := List.mem_map.1 hv
   exact ev_rv hr k a (by have := sz_arg ha; omega) (hw.inv.2.2 a ha) (hl.arg a ha)
  have hv : ∀ v ∈ e.args.map (ev r), valid v = true := fun v hv => by
   obtain ⟨a, ha, rfl⟩ := List.mem_map.1 hv
   exact ev_valid hrv (sz a) a (Nat.le_refl _) (hw.inv.2.2 a ha)
  rw [ev_eq]
  unfold evN
  split
  ·exact hl.val
  split
  ·exact rv_at (fun v h => (hr v h).rv) _
  split
  ·unfold vNot; cases decide (((e.args.map (ev r)).getD 0 zVal).kind = 1) with
   | true => exact rv_b _
   | false => exact rv_z
  split
  ·unfold vNeg; cases decide (((e.args.map (ev r)).getD 0 zVal).kind = 2) <;> cases decide (((e.args.map (ev r)).getD 0 zVal).int = -9223372036854775808) <;> first | exact rv_z | exact rv_i (wrap_rng _)
  split
  ·exact rv_bin (rv_get ha 0) (rv_get ha 1)
  split
  ·exact rv_b _
  split
  ·exact rv_or _ _
  split
  ·exact rv_choose _ ha
  split
  ·exact rv_call _ hv ha
  ·exact rv_z
theorem ev_gv {ts : List Int} {r : List Val} (hr : ∀ v ∈ r, GV v) {e : Ex} (hw : WT ts e) (hl : Lit e) : GV (ev r e) :=
 gv_mk (ev_valid (fun v h => (hr v h).valid) (sz e) e (Nat.le_refl _) hw) (ev_rv hr (sz e) e (Nat.le_refl _) hw hl)
/-! ## The ring -/
theorem WT.name {ts : List Int} {e : Ex} (h : WT ts e) (hk : e.kind = 9) : isGen e.name = true ∨ (sigT e.name).2.2 = true := by
 have h1 := h.inv.2.1
 have h2 : resT e.name (e.args.map Ex.f_Type) = (e.f_Type, true) := by rw [← h1]; unfold btype; rw [hk]; rfl
 unfold resT at h2
 cases hg : isGen e.name with
 | true => exact .inl rfl
 | false =>
  right
  rw [gen_not hg] at h2
  cases hs : (sigT e.name).2.2 with
  | true => rfl
  | false =>
   rw [hs] at h2
   revert h2
   cases decide (256 < ((e.args.map Ex.f_Type).length : Int)) <;> (intro h2; cases (Prod.mk.inj h2).2)
end Go.Proofs.Tryz
