/- Law 40: both folds are the plain one. -/
import Derived.Test.YtgfklnmckakclaaGreatDoorL40Fold
import Derived.Test.YtgfklnmckakclaaGreatDoorL40EqF
import Derived.Test.YtgfklnmckakclaaGreatDoorL40Law3
set_option linter.unusedVariables false
set_option linter.unusedSimpArgs false
namespace Go.Proofs.Tryz
open Go.Eng

theorem val_eta (v : Val) : Val.mk v.kind v.int v.text = v := by cases v; rfl
theorem drop_consE {l : List Ex} {i : Nat} (h : i < l.length) : l.drop i = l.getD i zEx :: l.drop (i + 1) := by
  rw [getD_eq h, List.drop_eq_getElem_cons h]
theorem allLit_cons (a : Ex) (l : List Ex) : allLit (a :: l) = (decide (a.kind = 1) && allLit l) := rfl
theorem rall_run {l : List Ex} (hl : l.length ≤ 1000000) : F75.run [PK.v (Ty.nm 1).sl] [RK.v Ty.bool] 4000000 (l, ()) = some ((allLit l, ()), ()) := by
  rw [F75_run]
  obtain ⟨r, e, rfl⟩ := loop (fun n i (_ : Unit) => F75c2 n l i) l.length 1 0 (fun i _ => allLit (l.drop i) = allLit l) (fun r => r = ((allLit l, ()), ()))
    (fun n _ _ hs => ⟨_, by rw [F75c2_eq, cdf (by omega)], by rw [List.drop_length] at hs; rw [← hs]; rfl⟩)
    (fun n i _ hi hs => by
      rw [drop_consE hi, allLit_cons] at hs
      rw [F75c2_eq, cdt (by omega), gd hi, Int.toNat_natCast, w1 (by omega)]
      cases h : decide ((l.getD i zEx).kind = 1) with
      | true => rw [h] at hs; exact .inl ⟨n, (), Nat.le_refl _, rfl, hs⟩
      | false => rw [h] at hs; exact .inr ⟨_, rfl, by rw [← hs]; rfl⟩) l.length 4000000 0 () (by omega) (by omega) (by omega) rfl
  exact e
theorem pall_run {l : List Ex} (hl : l.length ≤ 1000000) : F102.run [PK.v (Ty.nm 1).sl, PK.fv 103] [RK.v Ty.bool] 4000000 (l, (), ()) = some ((!allLit l, ()), ()) := by
  have h1 : ∀ a : Ex, F103.run [PK.v (Ty.nm 1)] [RK.v Ty.bool] 4000000 (a, ()) = some ((!decide (a.kind = 1), ()), ()) := fun a => by rw [F103_run, bnd (isLit_run a)]
  rw [F102_run, F113_run]
  obtain ⟨r, e, z, rfl, hz⟩ := loop (fun n i (_ : Unit) => F113c2 n l (l.length : Nat) i) l.length 1 0 (fun i _ => allLit (l.drop i) = allLit l) (fun r => ∃ z : Int, r = ((z, ()), ()) ∧ decide (0 ≤ z) = !allLit l)
    (fun n _ _ hs => ⟨_, by rw [F113c2_eq, cdf (by omega)], _, rfl, by rw [List.drop_length] at hs; rw [← hs]; rfl⟩)
    (fun n i _ hi hs => by
      rw [drop_consE hi, allLit_cons] at hs
      rw [F113c2_eq, cdt (by omega), gd hi, Int.toNat_natCast, w1 (by omega), bnd (h1 _)]
      simp only []
      cases h : decide ((l.getD i zEx).kind = 1) with
      | true => rw [h] at hs; exact .inl ⟨n, (), Nat.le_refl _, rfl, hs⟩
      | false => rw [h] at hs; exact .inr ⟨_, rfl, _, rfl, by rw [← hs, decide_eq_true (show (0 : Int) ≤ (i : Int) by omega)]; rfl⟩) l.length 4000000 0 () (by omega) (by omega) (by omega) rfl
  rw [bnd (show F113c2 4000000 l (l.length : Nat) (0 : Int) = some ((z, ()), ()) from e)]
  simp only []
  rw [hz]

/-! ## The reference's step -/
theorem rjunc_run {e : Ex} {o : Bool} (h2 : e.args.length = 2) (hv : ∀ a ∈ e.args, a.kind = 1 → valid a.value = true) : ∃ q, F76.run [PK.v (Ty.nm 1), PK.v Ty.bool] [RK.v (Ty.nm 1), RK.v Ty.bool] 4000000 (e, o, ()) = some ((junc e o, q, ()), ()) := by
  have t0 : Int.toNat 0 = 0 := rfl
  have t1 : Int.toNat 1 = 1 := rfl
  have v0 := hv _ (getD_mem (show 0 < e.args.length by omega) zEx)
  have v1 := hv _ (getD_mem (show 1 < e.args.length by omega) zEx)
  have h8 : ∀ n z nv da db, nv = (isV (e.args.getD 0 zEx) o || isV (e.args.getD 1 zEx) o) → da = isV (e.args.getD 0 zEx) (!o) → db = isV (e.args.getD 1 zEx) (!o) →
      ∃ q, F76c8 (n + 2) o nv da db e z (e.args.getD 0 zEx) (e.args.getD 1 zEx) = some ((junc e o, q, ()), ()) := by
    intro n z nv da db e1 e2 e3
    rw [F76c8_eq, bnd (rb_run _), bnd (rlit_run _), F76c12_eq]
    unfold junc
    rw [← e1, ← e2, ← e3]
    simp only []
    cases nv <;> cases da <;> cases db <;> cases decide ((e.args.getD 1 zEx).f_Type = 1) <;> cases decide ((e.args.getD 0 zEx).f_Type = 1) <;> exact ⟨_, rfl⟩
  have h3 : ∀ z nv, nv = (isV (e.args.getD 0 zEx) false || isV (e.args.getD 1 zEx) false) → ∃ q, F76c3 4000000 o nv e z (e.args.getD 0 zEx) (e.args.getD 1 zEx) = some ((junc e o, q, ()), ()) := by
    intro z nv e1
    rw [show F76c3 4000000 o nv e z (e.args.getD 0 zEx) (e.args.getD 1 zEx) = _ from F76c3_eq 3999999 o nv e z _ _, bnd (risTrue_run v0), bnd (risTrue_run v1)]
    simp only []
    cases o with
    | false =>
      rw [cf]
      exact h8 3999997 z nv _ _ e1 rfl rfl
    | true =>
      have h6 : ∀ b, b = (isV (e.args.getD 0 zEx) true || isV (e.args.getD 1 zEx) true) → ∃ q, F76c6 3999999 true b e z (e.args.getD 0 zEx) (e.args.getD 1 zEx) = some ((junc e true, q, ()), ()) := by
        intro b eb
        rw [show F76c6 3999999 true b e z (e.args.getD 0 zEx) (e.args.getD 1 zEx) = _ from F76c6_eq 3999998 true b e z _ _, bnd (isFalse_run v0), bnd (isFalse_run v1)]
        exact h8 3999996 z b _ _ eb rfl rfl
      rw [ct, bnd (risTrue_run v0)]
      simp only []
      cases ha : isV (e.args.getD 0 zEx) true with
      | true => rw [ct]; exact h6 true (by rw [ha]; rfl)
      | false => rw [cf, bnd (risTrue_run v1)]; exact h6 _ (by rw [ha]; rfl)
  rw [show F76.run [PK.v (Ty.nm 1), PK.v Ty.bool] [RK.v (Ty.nm 1), RK.v Ty.bool] 4000000 (e, o, ()) = _ from F76_run _ _ _, if_pos (by omega), if_pos (by omega), t0, t1, bnd (isFalse_run v0)]
  simp only []
  cases ha : isV (e.args.getD 0 zEx) false with
  | true => rw [ct]; exact h3 _ true (by rw [ha]; rfl)
  | false => rw [cf, bnd (isFalse_run v1)]; exact h3 _ _ (by rw [ha]; rfl)
theorem range_snoc (n : Nat) : List.range' 2 (n + 1) = List.range' 2 n ++ [2 + n] := by rw [List.range'_concat]; simp
theorem any_snoc {n : Nat} (f : Nat → Bool) : (List.range' 2 (n + 1)).any f = ((List.range' 2 n).any f || f (2 + n)) := by
  rw [range_snoc, List.any_append]; simp
theorem odd_int (i : Nat) : decide ((i : Int).tmod 2 = 1) = decide (i % 2 = 1) := by
  rw [Int.tmod_eq_emod_of_nonneg (by omega), decide_eq_decide]; omega
theorem rcas_run {e : Ex} (h2 : 2 ≤ e.args.length) (hl : e.args.length ≤ 100000) (hv : ∀ a ∈ e.args, a.kind = 1 → valid a.value = true) : F77.run [PK.v (Ty.nm 1)] [RK.v (Ty.nm 1)] 4000000 (e, ()) = some ((casS e, ()), ()) := by
  have t0 : Int.toNat 0 = 0 := rfl
  have t1 : Int.toNat 1 = 1 := rfl
  have v0 := hv _ (getD_mem (show 0 < e.args.length by omega) zEx)
  have h9 : F77c9 4000000 false 2 e zEx = some (((bif decide (e.args.length < 4) then e else bif pick e.f_Type e.args then { e with args := e.args.drop 2 } else e), ()), ()) := by
    obtain ⟨r, e1, rfl⟩ := loop (fun n i b => F77c9 n b i e zEx) e.args.length 3 1 (fun i b => 2 ≤ i ∧ b = (List.range' 2 (i - 2)).any (resQ e.f_Type e.args)) (fun r => r = (((bif decide (e.args.length < 4) then e else bif pick e.f_Type e.args then { e with args := e.args.drop 2 } else e), ()), ()))
      (fun n b hn hs => ⟨_, by
        obtain ⟨n, rfl⟩ : ∃ m, n = m + 1 := ⟨n - 1, by omega⟩
        rw [show n + 1 + 3 = n + 3 + 1 from rfl, F77c9_eq, cdf (by omega), F77c16_eq, if_pos (by omega), if_pos (by omega), Int.toNat_natCast, List.take_length, show decide ((e.args.length : Int) < 4) = decide (e.args.length < 4) by rw [decide_eq_decide]; omega, hs.2]
        show _ = some (((bif decide (e.args.length < 4) then e else bif pick e.f_Type e.args then { e with args := e.args.drop 2 } else e), ()), ())
        unfold pick
        cases decide (e.args.length < 4) <;> cases (List.range' 2 (e.args.length - 2)).any (resQ e.f_Type e.args) <;> rfl, rfl⟩)
      (fun n i b hi hs => by
        have e2 : ∀ b', F77c10 (n + 1) b' i e zEx = F77c9 n b' ((i + 1 : Nat) : Int) e zEx := fun b' => by rw [F77c10_eq, w1 (by omega)]
        have el : decide ((i : Int) = IntKind.i64.wrap ((e.args.length : Int) - 1)) = decide (i + 1 = e.args.length) := by
          rw [wrap64_id (by omega) (by omega), decide_eq_decide]; omega
        have hq : (List.range' 2 (i + 1 - 2)).any (resQ e.f_Type e.args) = (b || resQ e.f_Type e.args i) := by
          rw [show i + 1 - 2 = i - 2 + 1 by omega, any_snoc, hs.2, show 2 + (i - 2) = i by omega]
        refine .inl ⟨n, b || resQ e.f_Type e.args i, Nat.le_refl _, ?_, by omega, hq.symm⟩
        have e12 : ∀ q, F77c12 (n + 2) b i q e zEx = F77c9 n (b || (q && decide ((e.args.getD i zEx).f_Type = e.f_Type))) ((i + 1 : Nat) : Int) e zEx := fun q => by
          rw [F77c12_eq, gd hi, e2, e2, Int.toNat_natCast]
          cases q <;> cases b <;> cases decide ((e.args.getD i zEx).f_Type = e.f_Type) <;> rfl
        rw [F77c9_eq, cdt (by omega), odd_int, el, e12, e12]
        unfold resQ
        cases decide (i % 2 = 1) <;> rfl) e.args.length 4000000 2 false (by omega) (by omega) (by omega) ⟨Nat.le_refl _, rfl⟩
    exact e1
  rw [show F77.run [PK.v (Ty.nm 1)] [RK.v (Ty.nm 1)] 4000000 (e, ()) = _ from F77_run _ _, if_pos (by omega), if_pos (by omega), if_pos (by omega), if_pos (by omega), t0, t1, bnd (risTrue_run v0), h9]
  unfold casS
  cases decide ((e.args.getD 0 zEx).kind = 1) <;> cases isV (e.args.getD 0 zEx) true <;> cases decide ((e.args.getD 1 zEx).f_Type = e.f_Type) <;> rfl
theorem lit_vals {ts : List Int} {e : Ex} (hw : WT ts e) : ∀ a ∈ e.args, a.kind = 1 → valid a.value = true := fun a ha hk => (hw.inv.2.2 a ha).lit hk
theorem nn_arg {ts : List Int} {e : Ex} (hw : WT ts e) (hk : e.kind = 3) : 0 < e.args.length ∧ ((e.args.getD 0 zEx).kind = 3 → 0 < (e.args.getD 0 zEx).args.length) := by
  have := hw.one (.inl hk)
  refine ⟨by omega, fun h => ?_⟩
  have := (hw.inv.2.2 _ (getD_mem (show 0 < e.args.length by omega) zEx)).one (.inl h)
  omega
theorem rstep_run {ts : List Int} {e : Ex} (hw : WT ts e) (hz : sz e ≤ 100000) : F45.run [PK.v (Ty.nm 1)] [RK.v (Ty.nm 1)] 4000000 (e, ()) = some ((stp e, ()), ()) := by
  have t0 : Int.toNat 0 = 0 := rfl
  have hl := len_arg e
  have h10 : ∀ n z, F45c10 (n + 1) e z = some (((bif decide (e.kind = 8) then casS e else e), ()), ()) := fun n z => by
    rw [F45c10_eq]
    by_cases h8 : e.kind = 8
    · rw [cdt h8, cdt h8, bnd (rcas_run (hw.cas h8).1 (by omega) (lit_vals hw))]
    · rw [cdf h8, cdf h8]
  have h8 : ∀ n z, F45c8 (n + 2) e z = some (((bif decide (e.kind = 3) && (decide ((e.args.getD 0 zEx).kind = 3) && decide (((e.args.getD 0 zEx).args.getD 0 zEx).f_Type = 1)) then (e.args.getD 0 zEx).args.getD 0 zEx else
      bif decide (e.kind = 8) then casS e else e), ()), ()) := fun n z => by
    rw [F45c8_eq, h10, t0]
    by_cases h3 : e.kind = 3
    · obtain ⟨n1, n2⟩ := nn_arg hw h3
      rw [cdt h3, if_pos (by omega), decide_eq_true h3, Bool.true_and, if_pos (by omega)]
      by_cases h4 : (e.args.getD 0 zEx).kind = 3
      · have := n2 h4
        rw [cdt h4, if_pos (by omega), if_pos (by omega), if_pos (by omega), decide_eq_true h4, Bool.true_and]
        cases decide (((e.args.getD 0 zEx).args.getD 0 zEx).f_Type = 1) <;> rfl
      · rw [cdf h4, decide_eq_false h4]; rfl
    · rw [cdf h3, decide_eq_false h3]; rfl
  have h5 : ∀ n z, F45c5 (n + 3) e z = some (((bif decide (e.kind = 5) && (decide (e.op = 7) || decide (e.op = 8)) then junc e (decide (e.op = 8)) else
      bif decide (e.kind = 3) && (decide ((e.args.getD 0 zEx).kind = 3) && decide (((e.args.getD 0 zEx).args.getD 0 zEx).f_Type = 1)) then (e.args.getD 0 zEx).args.getD 0 zEx else
      bif decide (e.kind = 8) then casS e else e), ()), ()) := fun n z => by
    rw [F45c5_eq, h8]
    by_cases h5 : e.kind = 5
    · obtain ⟨q, hq⟩ := rjunc_run (o := decide (e.op = 8)) (hw.two h5) (lit_vals hw)
      rw [cdt h5, decide_eq_true h5, Bool.true_and, bnd hq]
      cases decide (e.op = 7) <;> cases decide (e.op = 8) <;> rfl
    · rw [cdf h5, decide_eq_false h5]; rfl
  have hev : R33 (e, [], ()) = some ((ev [] e, ()), ()) := ev_k (fun v h => by cases h) 100000 e hz hz hw
  rw [show F45.run [PK.v (Ty.nm 1)] [RK.v (Ty.nm 1)] 4000000 (e, ()) = _ from F45_run _ _, bnd (rall_run (by omega)), bnd hev, bnd (rlit_run _), show (4000000 : Nat) = 3999997 + 3 from rfl, h5]
  unfold stp
  cases allLit e.args <;> cases decide ((ev [] e).kind = e.f_Type) <;> rfl
theorem rfold_k {ts : List Int} : ∀ (k : Nat) (e : Ex), sz e ≤ k → sz e ≤ 100000 → WT ts e → Lit e → r15 k (e, ()) = some ((foldN k e, ()), ())
  | 0, e, h, _, _, _ => by have := sz_pos e; omega
  | k + 1, e, h, hz, hw, hl => by
    have hk := hw.kinds
    have hlen := len_arg e
    rw [show r15 (k + 1) (e, ()) = _ from r15_succ k (e, ()), show (F15 (r15 k)).run [PK.v (Ty.nm 1)] [RK.v (Ty.nm 1)] 4000000 (e, ()) = _ from F15_run _ _ _, foldN]
    by_cases h1 : e.kind = 1
    · rw [cdt h1, cdt h1, if_pos (.inl h1)]
    rw [cdf h1]
    by_cases h2 : e.kind = 2
    · rw [cdt h2, cdt h2, if_pos (.inr h2)]
    have ka := keep_args hw hl (foldN k) (fun a ha => keep_fold k a (hw.inv.2.2 a ha) (hl.arg a ha))
    have hsz := ka.sz
    rw [cdf h2, cdf (by omega), cdf (by omega), if_neg (by omega), show F15c7 (r15 k) 4000000 e zEx = _ from F15c7_eq (r15 k) 3999999 e zEx]
    obtain ⟨q, e1, rfl⟩ := loop (fun n i x => F15c9 (r15 k) n i e zEx x) e.args.length 1 0 (fun i x => x = (e.args.take i).map (foldN k)) (fun q => q = ((stp { e with args := e.args.map (foldN k) }, ()), ()))
      (fun n x _ hx => ⟨_, by
        rw [F15c9_eq, cdf (by omega), hx, List.take_length, val_eta, bnd (rstep_run ka.wt (by omega))], rfl⟩)
      (fun n i x hi hx => .inl ⟨n, _, Nat.le_refl _, by
        have hm := getD_mem hi zEx
        have hm2 := sz_arg hm
        have : x.length ≤ 1000000 := by rw [hx, List.length_map, List.length_take]; omega
        rw [F15c9_eq, cdt (by omega), gd hi, Int.toNat_natCast, bnd (rfold_k k _ (by omega) (by omega) (hw.inv.2.2 _ hm) (hl.arg _ hm)), if_pos (by unfold lim; omega), w1 (by omega)], by
        rw [hx, List.take_succ_eq_append_getElem hi, List.map_append, ← getD_eq hi (d := zEx)]; rfl⟩) e.args.length 3999999 0 [] (by omega) (by omega) (by omega) rfl
    exact e1

/-! ## The program's step -/
theorem plit_run (v : Val) : F83.run [PK.v (Ty.nm 0)] [RK.v (Ty.nm 1)] 4000000 (v, ()) = some ((litE v, ()), ()) := by
  rw [show F83.run [PK.v (Ty.nm 0)] [RK.v (Ty.nm 1)] 4000000 (v, ()) = _ from F83_run _ _]; rfl
theorem pjunc_run {e : Ex} {o : Bool} (h2 : e.args.length = 2) : F73.run [PK.v (Ty.nm 1), PK.v Ty.bool] [RK.v (Ty.nm 1)] 4000000 (e, o, ()) = some ((junc e o, ()), ()) := by
  have t0 : Int.toNat 0 = 0 := rfl
  have t1 : Int.toNat 1 = 1 := rfl
  rw [show F73.run [PK.v (Ty.nm 1), PK.v Ty.bool] [RK.v (Ty.nm 1)] 4000000 (e, o, ()) = _ from F73_run _ _ _, if_pos (by omega), if_pos (by omega), t0, t1, show F73c8 4000000 e zEx = _ from F73c8_eq 3999999 e zEx]
  simp only [bnd (is_run _ _), bnd (boolE_run _)]
  unfold junc
  cases isV (e.args.getD 0 zEx) o <;> cases isV (e.args.getD 1 zEx) o <;> cases isV (e.args.getD 0 zEx) (!o) <;> cases isV (e.args.getD 1 zEx) (!o) <;> cases decide ((e.args.getD 1 zEx).f_Type = 1) <;> cases decide ((e.args.getD 0 zEx).f_Type = 1) <;> rfl
theorem pcas_run {e : Ex} (h2 : 2 ≤ e.args.length) (hl : e.args.length ≤ 100000) : F74.run [PK.v (Ty.nm 1)] [RK.v (Ty.nm 1)] 4000000 (e, ()) = some ((casS e, ()), ()) := by
  have t0 : Int.toNat 0 = 0 := rfl
  have t1 : Int.toNat 1 = 1 := rfl
  have t2 : Int.toNat 2 = 2 := rfl
  have gdr : ∀ j, (e.args.drop 2).getD j zEx = e.args.getD (j + 2) zEx := fun j => by
    rw [List.getD_eq_getElem?_getD, List.getD_eq_getElem?_getD, List.getElem?_drop, Nat.add_comm]
  have hdl : (e.args.drop 2).length = e.args.length - 2 := List.length_drop ..
  have h12 : 4 ≤ e.args.length → F74c12 3999999 (e.args.drop 2) (e.args.drop 2) ((e.args.drop 2).length : Nat) 0 e zEx = some (((bif pick e.f_Type e.args then { e with args := e.args.drop 2 } else e), ()), ()) := by
    intro h4
    have hc : F105.run [PK.v (Ty.nm 1).sl] [RK.own 27 (Ty.nm 1)] 4000000 (e.args.drop 2, ()) = some ((e.args.drop 2, ()), ()) := by
      rw [show F105.run [PK.v (Ty.nm 1).sl] [RK.own 27 (Ty.nm 1)] 4000000 (e.args.drop 2, ()) = _ from F105_run _ _, show F105c1 4000000 (e.args.drop 2) = _ from F105c1_eq 3999999 _, if_neg (by omega), if_pos (by unfold lim; omega), List.nil_append]
    obtain ⟨r, e1, rfl⟩ := loop (fun n i (_ : Unit) => F74c12 n (e.args.drop 2) (e.args.drop 2) ((e.args.drop 2).length : Nat) i e zEx) (e.args.drop 2).length 1 0 (fun i _ => (List.range' 2 i).any (resQ e.f_Type e.args) = false) (fun r => r = (((bif pick e.f_Type e.args then { e with args := e.args.drop 2 } else e), ()), ()))
      (fun n _ _ hs => ⟨_, by rw [F74c12_eq, cdf (by omega)], by unfold pick; rw [← hdl, hs]; rfl⟩)
      (fun n i _ hi hs => by
        have el : decide ((i : Int) = IntKind.i64.wrap (((e.args.drop 2).length : Int) - 1)) = decide (2 + i + 1 = e.args.length) := by
          rw [wrap64_id (by omega) (by omega), decide_eq_decide]; omega
        have eo : decide (i % 2 = 1) = decide ((2 + i) % 2 = 1) := by rw [decide_eq_decide]; omega
        have hq : resQ e.f_Type e.args (2 + i) = ((decide (i % 2 = 1) || decide (2 + i + 1 = e.args.length)) && decide ((e.args.getD (i + 2) zEx).f_Type = e.f_Type)) := by
          unfold resQ; rw [eo, Nat.add_comm 2 i]
        have hn := any_snoc (n := i) (resQ e.f_Type e.args)
        rw [hs, Bool.false_or, hq] at hn
        have found : ((decide (i % 2 = 1) || decide (2 + i + 1 = e.args.length)) && decide ((e.args.getD (i + 2) zEx).f_Type = e.f_Type)) = true → pick e.f_Type e.args = true := fun h => by
          unfold pick
          rw [List.any_eq_true]
          exact ⟨2 + i, by rw [List.mem_range'_1]; omega, by rw [hq]; exact h⟩
        rw [F74c12_eq, cdt (by omega), gd hi, Int.toNat_natCast, gdr, odd_int, el, bnd hc, w1 (by omega), val_eta]
        simp only []
        revert found hn
        cases decide (i % 2 = 1) <;> cases decide (2 + i + 1 = e.args.length) <;> cases decide ((e.args.getD (i + 2) zEx).f_Type = e.f_Type) <;> intro hn found <;>
          first
            | exact .inl ⟨n, (), Nat.le_refl _, rfl, hn⟩
            | (refine .inr ⟨_, rfl, ?_⟩; rw [found rfl]; rfl)) (e.args.drop 2).length 3999999 0 () (by omega) (by omega) (by omega) rfl
    exact e1
  have h4 : F74c4 4000000 e zEx = some (((bif isV (e.args.getD 0 zEx) true then (bif decide ((e.args.getD 1 zEx).f_Type = e.f_Type) then e.args.getD 1 zEx else e) else bif decide (e.args.length < 4) then e else bif pick e.f_Type e.args then { e with args := e.args.drop 2 } else e), ()), ()) := by
    rw [show F74c4 4000000 e zEx = _ from F74c4_eq 3999999 e zEx, if_pos (by omega), if_pos (by omega), if_pos (by omega), if_pos (by omega), if_pos (by omega), t0, t1, t2, bnd (is_run _ _), Int.toNat_natCast, List.take_length]
    simp only []
    cases isV (e.args.getD 0 zEx) true with
    | true => rw [ct, ct]; cases decide ((e.args.getD 1 zEx).f_Type = e.f_Type) <;> rfl
    | false =>
      rw [cf, cf]
      by_cases h : e.args.length < 4
      · rw [cdt h, cdt (by omega)]
      · rw [cdf h, cdf (by omega), h12 (by omega)]
  rw [show F74.run [PK.v (Ty.nm 1)] [RK.v (Ty.nm 1)] 4000000 (e, ()) = _ from F74_run _ _, cdf (by omega), if_pos (by omega), t0, bnd (isLit_run _), h4]
  unfold casS
  cases decide ((e.args.getD 0 zEx).kind = 1) <;> rfl
theorem pconst_run {ts : List Int} {e : Ex} (hw : WT ts e) (hl : Lit e) (hz : sz e ≤ 100000) : F72.run [PK.v (Ty.nm 1)] [RK.v (Ty.nm 1), RK.v Ty.bool] 4000000 (e, ()) =
    some (((bif allLit e.args && decide ((ev [] e).kind = e.f_Type) then litE (ev [] e) else e), (allLit e.args && decide ((ev [] e).kind = e.f_Type)), ()), ()) := by
  have hlen := len_arg e
  rw [show F72.run [PK.v (Ty.nm 1)] [RK.v (Ty.nm 1), RK.v Ty.bool] 4000000 (e, ()) = _ from F72_run _ _, bnd (pall_run (by omega)), bnd (pev_run no_gv hz hw hl), bnd (plit_run _)]
  cases allLit e.args <;> cases decide ((ev [] e).kind = e.f_Type) <;> rfl
theorem pstep_run {ts : List Int} {e : Ex} (hw : WT ts e) (hl : Lit e) (hz : sz e ≤ 100000) : F44.run [PK.v (Ty.nm 1)] [RK.v (Ty.nm 1)] 4000000 (e, ()) = some ((stp e, ()), ()) := by
  have t0 : Int.toNat 0 = 0 := rfl
  have hlen := len_arg e
  rw [show F44.run [PK.v (Ty.nm 1)] [RK.v (Ty.nm 1)] 4000000 (e, ()) = _ from F44_run _ _, bnd (pconst_run hw hl hz), show F44c12 4000000 e zEx = _ from F44c12_eq 3999999 e zEx, t0]
  unfold stp
  cases (allLit e.args && decide ((ev [] e).kind = e.f_Type)) with
  | true => rfl
  | false =>
    simp only []
    rw [cf, cf]
    by_cases h5 : e.kind = 5
    · rw [bnd (pjunc_run (o := false) (hw.two h5)), bnd (pjunc_run (o := true) (hw.two h5)), decide_eq_true h5, Bool.true_and, ct, ct, decide_eq_false (show ¬ e.kind = 3 by omega), decide_eq_false (show ¬ e.kind = 8 by omega)]
      by_cases o7 : e.op = 7
      · rw [decide_eq_true o7, decide_eq_false (show ¬ e.op = 8 by omega)]; rfl
      · rw [decide_eq_false o7]; cases decide (e.op = 8) <;> rfl
    rw [cdf h5, cdf h5, decide_eq_false h5, Bool.false_and, cf]
    by_cases h3 : e.kind = 3
    · obtain ⟨n1, n2⟩ := nn_arg hw h3
      have p0 : (0 : Int) < (e.args.length : Int) := by omega
      rw [cdt h3, decide_eq_true h3, Bool.true_and, if_pos p0, decide_eq_false (show ¬ e.kind = 8 by omega)]
      by_cases h4 : (e.args.getD 0 zEx).kind = 3
      · have := n2 h4
        have p1 : (0 : Int) < ((e.args.getD 0 zEx).args.length : Int) := by omega
        rw [cdt h4, decide_eq_true h4, Bool.true_and]
        simp only [if_pos p0, if_pos p1]
        cases decide (((e.args.getD 0 zEx).args.getD 0 zEx).f_Type = 1) <;> rfl
      · rw [cdf h4, decide_eq_false h4]; rfl
    · rw [cdf h3, decide_eq_false h3, Bool.false_and, cf]
      by_cases h8 : e.kind = 8
      · rw [cdt h8, cdt h8, bnd (pcas_run (hw.cas h8).1 (by omega))]
      · rw [cdf h8, cdf h8]
theorem pfold_k {ts : List Int} : ∀ (k : Nat) (e : Ex), sz e ≤ k → sz e ≤ 100000 → WT ts e → Lit e → r43 k (e, (), ()) = some ((foldN k e, ()), ((), ()))
  | 0, e, h, _, _, _ => by have := sz_pos e; omega
  | k + 1, e, h, hz, hw, hl => by
    have hk := hw.kinds
    have hlen := len_arg e
    rw [show r43 (k + 1) (e, (), ()) = _ from r43_succ k (e, (), ()), F43_run, show F43c1 (r43 k) 4000000 e zEx = _ from F43c1_eq (r43 k) 3999999 e zEx, foldN]
    by_cases h1 : e.kind = 1
    · rw [cdt h1, cdt h1, if_pos (.inl h1)]
    rw [cdf h1]
    by_cases h2 : e.kind = 2
    · rw [cdt h2, cdt h2, if_pos (.inr h2)]
    have ka := keep_args hw hl (foldN k) (fun a ha => keep_fold k a (hw.inv.2.2 a ha) (hl.arg a ha))
    have hsz := ka.sz
    rw [cdf h2, cdf (by omega), cdf (by omega), if_neg (by omega), show F43c7 (r43 k) 3999999 e zEx = _ from F43c7_eq (r43 k) 3999998 e zEx]
    obtain ⟨q, e1, rfl⟩ := loop (fun n i x => F43c9 (r43 k) n e.args (e.args.length : Nat) i e zEx x) e.args.length 1 0 (fun i x => x = (e.args.take i).map (foldN k)) (fun q => q = ((stp { e with args := e.args.map (foldN k) }, ()), ((), ())))
      (fun n x _ hx => ⟨_, by
        rw [F43c9_eq, cdf (by omega), hx, List.take_length, val_eta, bnd (pstep_run ka.wt ka.lit (by omega))], rfl⟩)
      (fun n i x hi hx => .inl ⟨n, _, Nat.le_refl _, by
        have hm := getD_mem hi zEx
        have hm2 := sz_arg hm
        have : x.length ≤ 1000000 := by rw [hx, List.length_map, List.length_take]; omega
        rw [F43c9_eq, cdt (by omega), gd hi, Int.toNat_natCast, bnd (pfold_k k _ (by omega) (by omega) (hw.inv.2.2 _ hm) (hl.arg _ hm)), if_pos (by unfold lim; omega), w1 (by omega)], by
        rw [hx, List.take_succ_eq_append_getElem hi, List.map_append, ← getD_eq hi (d := zEx)]; rfl⟩) e.args.length 3999998 0 [] (by omega) (by omega) (by omega) rfl
    exact e1
noncomputable def fold (e : Ex) : Ex := foldN 100000 e
theorem rfold_run {ts : List Int} {e : Ex} (hz : sz e ≤ 100000) (hw : WT ts e) (hl : Lit e) : R15 (e, ()) = some ((fold e, ()), ()) := rfold_k 100000 e hz hz hw hl
theorem pfold_run {ts : List Int} {e : Ex} (hz : sz e ≤ 100000) (hw : WT ts e) (hl : Lit e) : F14.run [PK.v (Ty.nm 1)] [RK.v (Ty.nm 1)] 4000000 (e, ()) = some ((fold e, ()), ()) := by
  rw [F14_run, bnd (show R43 (e, (), ()) = _ from pfold_k 100000 e hz hz hw hl)]; rfl

/-! ## What a law's argument is -/
theorem okVal {k : Nat} {v : Val} (h : okK NN (k + 1) 0 v) : RV v := by
  obtain ⟨h1, h2, h3, _⟩ : _ ∧ (Lit.int .i64 v.int).wf = true ∧ (∀ b ∈ v.text, 0 ≤ b ∧ b < 256) ∧ True := h
  refine ⟨?_, h3⟩
  have h4 : IntKind.i64.min ≤ v.int ∧ v.int ≤ IntKind.i64.max := by simpa [Go.Lit.wf] using h2
  rw [show IntKind.i64.min = -9223372036854775808 by rfl, show IntKind.i64.max = 9223372036854775807 by rfl] at h4
  unfold inR
  omega
theorem okEx : ∀ (k : Nat) (e : Ex), sz e ≤ k → okK NN (k + 1) 1 e → Lit e
  | 0, e, h, _ => by have := sz_pos e; omega
  | k + 1, e, h, ho => by
    obtain ⟨_, _, hv, _, _, _, ha, _⟩ : _ ∧ _ ∧ okK NN (k + 1) 0 e.value ∧ _ ∧ _ ∧ _ ∧ (∀ a ∈ e.args, okK NN (k + 1) 1 a) ∧ _ := ho
    exact .mk (okVal hv) (fun a h2 => okEx k a (by have := sz_arg h2; omega) (ha a h2))
theorem f3_run {e : Ex} (hz : sz e ≤ 99000) (hl : Lit e) : F3.run [.v (.nm 1)] [.v .bool] 4000000 (e, ()) = some ((true, ()), ()) := by
  obtain ⟨b, h1, h2⟩ := fine_run (e := e) (by omega)
  rw [F3_run, bnd h1]
  cases b with
  | false => rfl
  | true =>
    have hw := (h2 rfl).wt
    have hk := (keep_fold 100000 e hw hl).sz
    simp only [Bool.not_true]
    rw [cf, bnd (pfold_run (by omega) hw hl), bnd (rfold_run (by omega) hw hl)]
    simp only []
    rw [bnd (equal_run (show sz (fold e) ≤ 100000 by unfold fold; omega))]; rfl
theorem law3 (x : HIn NN.ρ [.v (.nm 1)]) (hm : ∀ k, measI k [.v (.nm 1)] x ≤ 1048576) (ho : ∀ k, okI k [.v (.nm 1)] x) :
    ∃ o, F3.run [.v (.nm 1)] [.v .bool] 4000000 x = some ((true, ()), o) := by
  obtain ⟨e, u⟩ := x
  have h0 : ∀ k, mEx k e + 0 ≤ 1048576 := fun k => hm k
  have h' := size_of_meas (e := e) (B := 1048576) (fun k => by have := h0 k; omega)
  exact ⟨(), f3_run (by omega) (okEx (sz e) e (Nat.le_refl _) (ho (sz e + 1)).1)⟩
end Go.Proofs.Tryz
