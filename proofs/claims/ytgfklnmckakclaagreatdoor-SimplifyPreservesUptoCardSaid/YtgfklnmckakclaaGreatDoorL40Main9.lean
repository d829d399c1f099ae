/- Law 40: what the fold and the conjuncts preserve. -/
import Derived.Test.YtgfklnmckakclaaGreatDoorL40Pres
import Derived.Test.YtgfklnmckakclaaGreatDoorL40Law9
set_option linter.unusedVariables false
set_option linter.unusedSimpArgs false
namespace Go.Proofs.Tryz
open Go.Eng

theorem strLt_irr : ∀ a : List Int, strLt a a = false
  | [] => rfl
  | x :: a => by simp [strLt, strLt_irr a]
theorem sumL_len9 {α : Type} (f : α → Nat) (h : ∀ x, 1 ≤ f x) : ∀ l : List α, l.length ≤ sumL f l
  | [] => Nat.le_refl _
  | x :: l => by
    have := sumL_len9 f h l
    have := h x
    simp only [sumL, List.length_cons]; omega
theorem mVal_eq9 (k : Nat) (v : Val) : mVal (k + 1) v = (1 + (1 + ((v.text.length + 1) + 0))) + 1 := rfl
theorem rows_le9 {r : List Val} {B : Nat} (h : sumL (mVal 1) r ≤ B) : 4 * r.length ≤ B := by
  have h1 := sumL_mem (mVal 1) (fun _ => 1) 4 r (fun v _ => by rw [mVal_eq9]; omega)
  have h2 := sumL_len9 (fun _ : Val => 1) (fun _ => Nat.le_refl _) r
  omega
theorem vcmp_self (v : Val) : vcmp v v = 0 := by
  unfold vcmp
  rw [decide_eq_true rfl, Bool.not_true, cf, strLt_irr, decide_eq_false (Int.lt_irrefl _)]
  cases decide (v.kind = 3) <;> rfl
theorem same_val_run (v : Val) : F32.run [PK.v (Ty.nm 0), PK.v (Ty.nm 0)] [RK.v Ty.bool] 4000000 (v, v, ()) = some ((true, ()), ()) := by
  rw [F32_run, bnd (vcmp_run v v), vcmp_self]; rfl
theorem conjN_sz {ts : List Int} : ∀ (k : Nat) (e : Ex), WT ts e → szL (conjN k e) + (conjN k e).length ≤ sz e + 1
  | 0, e, _ => Nat.zero_le _
  | k + 1, e, h => by
    rw [conjN]
    cases isV e true with
    | true => exact Nat.zero_le _
    | false =>
      rw [cf]
      cases hb : decide (e.kind = 5) && decide (e.op = 7) with
      | false => rw [cf]; simp [szL]
      | true =>
        simp only [Bool.and_eq_true, decide_eq_true_eq] at hb
        have h2 := h.two hb.1
        have h3 := sz_two h2
        have h4 := mem_two h2
        have i0 := conjN_sz k _ (h.inv.2.2 _ h4.1)
        have i1 := conjN_sz k _ (h.inv.2.2 _ h4.2)
        have ha : ∀ a b : List Ex, szL (a ++ b) = szL a + szL b := fun a b => by
          induction a with
          | nil => simp [szL]
          | cons x a ih => rw [List.cons_append, szL, szL, ih]; omega
        rw [ct, List.length_append, ha]
        omega
def T01 (t : Int) : Prop := t = 0 ∨ t = 1
theorem conjN_ty {ts : List Int} : ∀ (k : Nat) (e : Ex), WT ts e → T01 e.f_Type → ∀ a ∈ conjN k e, T01 a.f_Type
  | 0, e, _, _ => fun a h => by cases h
  | k + 1, e, h, ht => by
    rw [conjN]
    cases isV e true with
    | true => intro a h; cases h
    | false =>
      rw [cf]
      cases hb : decide (e.kind = 5) && decide (e.op = 7) with
      | false => intro a h; rw [cf] at h; rw [List.mem_singleton.1 h]; exact ht
      | true =>
        simp only [Bool.and_eq_true, decide_eq_true_eq] at hb
        have h2 := h.two hb.1
        have h4 := mem_two h2
        have hb2 := h.inv.2.1
        rw [bt5 hb.1, hb.2] at hb2
        unfold binT at hb2
        rw [List.length_map, h2] at hb2
        have hc : (compat ((e.args.map Ex.f_Type).getD 0 0) 1 && compat ((e.args.map Ex.f_Type).getD 1 0) 1) = true := (Prod.mk.inj hb2).2
        rw [map_ty (by omega), map_ty (by omega), Bool.and_eq_true, compat_iff, compat_iff] at hc
        intro a ha
        rw [ct] at ha
        rcases List.mem_append.1 ha with ha | ha
        · exact conjN_ty k _ (h.inv.2.2 _ h4.1) hc.1 a ha
        · exact conjN_ty k _ (h.inv.2.2 _ h4.2) hc.2 a ha
theorem wt_and {ts : List Int} {a b : Ex} (ha : WT ts a) (hb : WT ts b) (ta : T01 a.f_Type) (tb : T01 b.f_Type) : WT ts (andE a b) := by
  refine .mk ⟨fun _ => rfl, fun _ => ⟨rfl, rfl⟩, fun h => absurd rfl h, .inl rfl, rfl, rfl, rfl, (show 2 ≤ 256 by omega)⟩ ?_ (fun x h => ?_)
  · show ((1, compat a.f_Type 1 && compat b.f_Type 1) : Int × Bool) = (1, true)
    rw [compat_iff.2 ta, compat_iff.2 tb]; rfl
  · rcases List.mem_cons.1 h with rfl | h
    · exact ha
    · rw [List.mem_singleton.1 h]; exact hb
theorem wt_foldl {ts : List Int} : ∀ (l : List Ex) (x : Ex), WT ts x → T01 x.f_Type → (∀ a ∈ l, WT ts a ∧ T01 a.f_Type) → WT ts (l.foldl andE x)
  | [], x, h, _, _ => h
  | a :: l, x, h, ht, hl => by
    rw [List.foldl_cons]
    have h1 := hl a (List.mem_cons_self ..)
    exact wt_foldl l _ (wt_and h h1.1 ht h1.2) (.inr rfl) (fun b hb => hl b (List.mem_cons_of_mem _ hb))
theorem wt_conjE {ts : List Int} : ∀ {l : List Ex}, (∀ a ∈ l, WT ts a ∧ T01 a.f_Type) → WT ts (conjE l)
  | [], _ => wt_lit rfl
  | x :: l, h => wt_foldl l x (h x (List.mem_cons_self ..)).1 (h x (List.mem_cons_self ..)).2 (fun a ha => h a (List.mem_cons_of_mem _ ha))
theorem isT_and (v w : Val) : isT (andL false [v, w]) = (isT v && isT w) := by
  have hx : ∀ u : Val, isF u = true → isT u = false := fun u h => by
    unfold isF at h
    unfold isT
    rw [Bool.and_eq_true, decide_eq_true_eq, decide_eq_true_eq] at h
    rw [decide_eq_false (show ¬ u.int = 1 by omega), Bool.and_false]
  rw [and2x]
  cases hv : isF v with
  | true => rw [hx v hv]; rfl
  | false => cases hw : isF w with
    | true => rw [hx w hw, Bool.and_false]; rfl
    | false => cases isT v <;> cases isT w <;> rfl
theorem ev_and (r : List Val) (a b : Ex) : ev r (andE a b) = andL false [ev r a, ev r b] := ev_2 (e := andE a b) rfl rfl
theorem isT_foldl (r : List Val) : ∀ (l : List Ex) (x : Ex), isT (ev r (l.foldl andE x)) = (isT (ev r x) && l.all fun a => isT (ev r a))
  | [], x => by simp
  | a :: l, x => by rw [List.foldl_cons, isT_foldl r l, ev_and, isT_and, List.all_cons, Bool.and_assoc]
theorem isT_conjE (r : List Val) : ∀ l : List Ex, isT (ev r (conjE l)) = l.all fun a => isT (ev r a)
  | [] => by rw [show conjE [] = litE (vbool true) from rfl, lit_ev (show (litE (vbool true)).kind = 1 from rfl)]; rfl
  | x :: l => by rw [conjE, isT_foldl, List.all_cons]
theorem isT_conjN {ts : List Int} {r : List Val} : ∀ (k : Nat) (e : Ex), sz e ≤ k → WT ts e → (conjN k e).all (fun a => isT (ev r a)) = isT (ev r e)
  | 0, e, h, _ => by have := sz_pos e; omega
  | k + 1, e, h, hw => by
    rw [conjN]
    cases hv : isV e true with
    | true => rw [ct, isV_ev hv]; rfl
    | false =>
      rw [cf]
      cases hb : decide (e.kind = 5) && decide (e.op = 7) with
      | false => rw [cf]; simp
      | true =>
        simp only [Bool.and_eq_true, decide_eq_true_eq] at hb
        have h2 := hw.two hb.1
        have h3 := sz_two h2
        have h4 := mem_two h2
        rw [ct, List.all_append, isT_conjN k _ (by omega) (hw.inv.2.2 _ h4.1), isT_conjN k _ (by omega) (hw.inv.2.2 _ h4.2), ev_2 hb.1 h2, hb.2]
        exact (isT_and _ _).symm

theorem f9_tail {e : Ex} {r : List Val} (hz : sz e ≤ 99000) (hf : Fine e) (hl : Lit e) (hr : FitRow r) : F9c3 4000000 r e = some ((true, ()), ()) := by
  have hw := hf.wt
  have kp := keep_fold 100000 e hw hl
  have hsz : sz (fold e) ≤ sz e := kp.sz
  have hdp : dep (fold e) ≤ dep e := kp.dep
  have hwf : WT typs (fold e) := kp.wt
  have hty : (fold e).f_Type = e.f_Type := kp.type
  have hev : ev r (fold e) = ev r e := fold_ev hr 100000 e hw hl
  have h6 : ∀ n, F9c6 (n + 1) r e = some ((true, ()), ()) := fun n => by
    rw [F9c6_eq]
    by_cases h1 : e.f_Type = 1
    · have bd := conjN_bd (ts := typs) 100000 e hw
      have bs := conjN_sz (ts := typs) 100000 e hw
      have bt := conjN_ty (ts := typs) 100000 e hw (.inr h1)
      have zc := sz_conjE (conjN 100000 e)
      have wc : WT typs (conjE (conjN 100000 e)) := wt_conjE (fun a ha => ⟨(bd.2 a ha).2, bt a ha⟩)
      rw [decide_eq_true h1, Bool.not_true, cf, show R24 = r24 100000 from rfl, bnd (conj_k 100000 e (by omega) (by omega) hw)]
      simp only []
      rw [bnd (conjE_run (by omega))]
      simp only []
      rw [bnd (true_run hr.valid (show sz (conjE (conjN 100000 e)) ≤ 100000 by omega) wc), bnd (true_run hr.valid (by omega) hw), isT_conjE, isT_conjN 100000 e (by omega) hw]
      simp only []
      rw [cdt trivial]
    · rw [decide_eq_false h1, Bool.not_false, ct]
  obtain ⟨b, h7, h8⟩ := bound_run (ts := typs) (e := fold e) (by omega)
  have hb : b = true := h8.2 ⟨Nat.le_trans hdp hf.dep, hwf⟩
  have ty : F36.run [] [RK.own 3 (Ty.int .i64)] 4000000 () = some ((typs, ()), ()) := by
    rw [show F36.run [] [RK.own 3 (Ty.int .i64)] 4000000 () = _ from F36_run _, show F36c1 4000000 = _ from F36c1_eq 3999999]; rfl
  rw [show F9c3 4000000 r e = _ from F9c3_eq 3999999 r e, bnd (pfold_run (by omega) hw hl)]
  simp only []
  rw [decide_eq_true hty, Bool.not_true, cf, bnd (show R33 (fold e, r, ()) = _ from ev_k hr.valid 100000 (fold e) (by omega) (by omega) hwf), bnd (show R33 (e, r, ()) = _ from ev_k hr.valid 100000 e (by omega) (by omega) hw)]
  simp only []
  rw [hev, bnd (same_val_run _)]
  simp only []
  rw [Bool.not_true, cf, bnd (depth_run (e := fold e) (by omega)), bnd (depth_run (e := e) (by omega))]
  simp only []
  rw [cdf (show ¬ ((dep e : Nat) : Int) < ((dep (fold e) : Nat) : Int) by omega), bnd ty]
  simp only []
  rw [bnd h7, hb]
  simp only []
  rw [Bool.not_true, cf, h6]
theorem f9_run {e : Ex} {r : List Val} (hz : sz e ≤ 99000) (hrl : r.length ≤ 1000000) (hl : Lit e) : F9.run [.v (.nm 1), .v (.sl (.nm 0))] [.v .bool] 4000000 (e, r, ()) = some ((true, ()), ()) := by
  obtain ⟨b, h1, h2⟩ := fine_run (e := e) (by omega)
  obtain ⟨c, h3, h4⟩ := fits_run hrl
  rw [F9_run, bnd h1]
  cases b with
  | false => rfl
  | true =>
    simp only [Bool.not_true]
    rw [cf, bnd h3]
    cases c with
    | false => rfl
    | true =>
      simp only [Bool.not_true]
      rw [cf, f9_tail hz (h2 rfl) hl (h4 rfl)]
theorem law9 (x : HIn NN.ρ [.v (.nm 1), .v (.sl (.nm 0))]) (hm : ∀ k, measI k [.v (.nm 1), .v (.sl (.nm 0))] x ≤ 1048576) (ho : ∀ k, okI k [.v (.nm 1), .v (.sl (.nm 0))] x) :
    ∃ o, F9.run [.v (.nm 1), .v (.sl (.nm 0))] [.v .bool] 4000000 x = some ((true, ()), o) := by
  obtain ⟨e, r, u⟩ := x
  have h0 : ∀ k, mEx k e + ((sumL (mVal k) r + 1) + 0) ≤ 1048576 := fun k => hm k
  have h' := size_of_meas (e := e) (B := 1048576) (fun k => by have := h0 k; omega)
  have h3 := h0 1
  have h2 := rows_le9 (r := r) (B := 1048576) (by omega)
  exact ⟨(), f9_run (by omega) (by omega) (okEx (sz e) e (Nat.le_refl _) (ho (sz e + 1)).1)⟩
end Go.Proofs.Tryz
