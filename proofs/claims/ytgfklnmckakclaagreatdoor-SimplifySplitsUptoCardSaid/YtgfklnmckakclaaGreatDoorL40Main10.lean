/- Law 40: predicates and the rest are satisfied by the same rows. -/
import Derived.Test.YtgfklnmckakclaaGreatDoorL40Law10
import Derived.Test.YtgfklnmckakclaaGreatDoorL40Main6
set_option linter.unusedVariables false
set_option linter.unusedSimpArgs false
namespace Go.Proofs.Tryz
open Go.Eng

theorem strLt_irrefl : ∀ a : List Int, strLt a a = false
  | [] => rfl
  | x :: a => by simp [strLt, strLt_irrefl a]
theorem strLt_asymm : ∀ {a b : List Int}, strLt a b = true → strLt b a = false
  | [], [], h => by simp [strLt] at h
  | [], _ :: _, h => by simp [strLt]
  | _ :: _, [], h => by simp [strLt] at h
  | x :: a, y :: b, h => by
    simp only [strLt] at h ⊢
    by_cases h1 : x < y
    · simp [h1, show ¬ y < x by omega, show ¬ y = x by omega]
    · by_cases h2 : x = y
      · subst h2
        simp at h ⊢
        exact strLt_asymm h
      · simp [h1, h2] at h
theorem sgn_neg {a b : Bool} (h : a = true → b = false) : sgn b a = - sgn a b := by
  cases a with
  | true => rw [h rfl]; rfl
  | false => cases b <;> rfl
theorem vcmp_neg {a b : Val} (h : a.kind = b.kind) : vcmp b a = - vcmp a b := by
  unfold vcmp
  rw [decide_eq_true h, decide_eq_true h.symm, Bool.not_true, cf, cf, h]
  cases decide (b.kind = 3) with
  | true => rw [ct, ct]; exact sgn_neg strLt_asymm
  | false => rw [cf, cf]; exact sgn_neg (fun h1 => by have := of_decide_eq_true h1; rw [decide_eq_false]; omega)
theorem holds_mir {op c : Int} (h1 : 1 ≤ op) (h6 : op ≤ 6) : holdsC (mir op) (-c) = holdsC op c := by
  rcases (by omega : op = 1 ∨ op = 2 ∨ op = 3 ∨ op = 4 ∨ op = 5 ∨ op = 6) with rfl | rfl | rfl | rfl | rfl | rfl
  · show decide (-c = 0) = decide (c = 0); rw [decide_eq_decide]; omega
  · show (!decide (-c = 0)) = !decide (c = 0); congr 1; rw [decide_eq_decide]; omega
  · show decide (0 < -c) = decide (c < 0); rw [decide_eq_decide]; omega
  · show decide (0 ≤ -c) = decide (c ≤ 0); rw [decide_eq_decide]; omega
  · show decide (-c < 0) = decide (0 < c); rw [decide_eq_decide]; omega
  · show decide (-c ≤ 0) = decide (0 ≤ c); rw [decide_eq_decide]; omega
theorem mir_ge {op : Int} (h : 1 ≤ op) (h' : op ≤ 6) : 1 ≤ mir op := by
  unfold mir; repeat (split <;> try omega)
theorem vtest_mir {op : Int} {a b : Val} (h1 : 1 ≤ op) (h6 : op ≤ 6) : vtest (mir op) b a = vtest op a b := by
  have m1 := mir_ge h1 h6
  have m2 := mir_lt h1 h6
  by_cases h0 : a.kind = 0 ∨ b.kind = 0
  · rw [test_null h0, test_null h0.symm]
  · unfold vtest
    rw [decide_eq_false (show ¬ a.kind = 0 by omega), decide_eq_false (show ¬ b.kind = 0 by omega), cf, cf]
    by_cases hk : a.kind = b.kind
    · rw [decide_eq_true hk, decide_eq_true hk.symm, Bool.not_true, cf, cf, cdf (show ¬ op < 1 by omega), cdf (show ¬ 6 < op by omega), cdf (show ¬ mir op < 1 by omega), cdf (show ¬ 6 < mir op by omega), vcmp_neg hk, holds_mir h1 h6]
    · rw [decide_eq_false hk, decide_eq_false (fun e => hk e.symm)]; rfl

def matchP (p : Pred) (r : List Val) : Bool :=
  bif decide (p.op = 20) then decide ((atV r p.column).kind = 0) else bif decide (p.op = 21) then !decide ((atV r p.column).kind = 0) else isT (vtest p.op (atV r p.column) p.value)
theorem match_run (p : Pred) (r : List Val) : F37.run [PK.v (Ty.nm 3), PK.v (Ty.nm 0).sl] [RK.v Ty.bool] 4000000 (p, r, ()) = some ((matchP p r, ()), ()) := by
  rw [show F37.run [PK.v (Ty.nm 3), PK.v (Ty.nm 0).sl] [RK.v Ty.bool] 4000000 (p, r, ()) = _ from F37_run _ _ _, bnd (atV_run r p.column)]
  simp only []
  rw [bnd (vtest_run _ _ _)]
  simp only []
  rw [bnd (isT_run _)]
  unfold matchP
  cases decide (p.op = 20) <;> cases decide (p.op = 21) <;> rfl

theorem ev_col (r : List Val) {e : Ex} (h : e.kind = 2) : ev r e = atV r e.slot := by rw [ev_eq]; unfold evN; rw [if_neg (by omega), if_pos h]
theorem ev_lit (r : List Val) {e : Ex} (h : e.kind = 1) : ev r e = e.value := by rw [ev_eq]; unfold evN; rw [if_pos h]
theorem map_ev {r : List Val} {l : List Ex} {i : Nat} (h : i < l.length) : (l.map (ev r)).getD i zVal = ev r (l.getD i zEx) := by
  rw [getD_eq (by rw [List.length_map]; exact h), getD_eq h, List.getElem_map]
theorem ev_null {ts : List Int} {r : List Val} {e : Ex} {c : Int} (hw : WT ts e) (h : isNullC e = some c) : ev r e = vbool (decide ((atV r c).kind = 0)) := by
  unfold isNullC at h
  by_cases h6 : e.kind = 6
  · rw [if_pos h6] at h
    by_cases h2 : (arg0 e).kind = 2
    · rw [if_pos h2] at h
      cases h
      have hl := hw.one (.inr (.inr h6))
      rw [ev_eq]
      unfold evN
      rw [if_neg (by omega), if_neg (by omega), if_neg (by omega), if_neg (by omega), if_neg (by omega), if_pos h6, map_ev (by omega), show e.args.getD 0 zEx = arg0 e from rfl, ev_col r h2]
    · rw [if_neg h2] at h; cases h
  · rw [if_neg h6] at h; cases h
theorem pred_sound {ts : List Int} {r : List Val} {e : Ex} (hw : WT ts e) (h : (predE e).2 = true) : matchP (predE e).1 r = isT (ev r e) := by
  unfold predE at h ⊢
  cases hn : isNullC e with
  | some c =>
    rw [ev_null hw hn, isT_b]; rfl
  | none =>
    rw [hn] at h
    simp only at h ⊢
    by_cases h3 : e.kind = 3
    · rw [if_pos h3] at h ⊢
      have hl := hw.one (.inl h3)
      cases hm : isNullC (arg0 e) with
      | none => rw [hm] at h; cases h
      | some c =>
        have hwa := hw.inv.2.2 _ (mem_one hl)
        rw [ev_eq]
        unfold evN
        rw [if_neg (by omega), if_neg (by omega), if_pos h3, map_ev (by omega), show e.args.getD 0 zEx = arg0 e from rfl, ev_null hwa hm]
        show (!decide ((atV r c).kind = 0)) = _
        cases decide ((atV r c).kind = 0) <;> rfl
    · rw [if_neg h3] at h ⊢
      by_cases h5 : e.kind = 5
      · rw [if_pos h5] at h ⊢
        have hl := hw.two h5
        by_cases h1 : 1 ≤ e.op
        · rw [if_pos h1] at h ⊢
          by_cases h6 : e.op ≤ 6
          · rw [if_pos h6] at h ⊢
            have hev : ev r e = vtest e.op (ev r (arg0 e)) (ev r (arg1 e)) := by
              rw [ev_eq]
              unfold evN
              rw [if_neg (by omega), if_neg (by omega), if_neg (by omega), if_neg (by omega), if_pos h5, map_ev (by omega), map_ev (by omega)]
              unfold vBin
              rw [decide_eq_false (show ¬ e.op = 7 by omega), decide_eq_false (show ¬ e.op = 8 by omega), decide_eq_false (show ¬ e.op = 9 by omega), decide_eq_false (show ¬ e.op = 10 by omega), decide_eq_false (show ¬ e.op = 11 by omega), decide_eq_false (show ¬ e.op = 12 by omega), decide_eq_false (show ¬ e.op = 13 by omega), decide_eq_false (show ¬ e.op = 14 by omega), decide_eq_false (show ¬ e.op = 15 by omega)]
              rfl
            have mp : ∀ c o v, 1 ≤ o → o ≤ 6 → matchP ⟨c, o, v⟩ r = isT (vtest o (atV r c) v) := fun c o v a b => by
              unfold matchP
              rw [decide_eq_false (show ¬ o = 20 by omega), decide_eq_false (show ¬ o = 21 by omega)]; rfl
            rw [hev]
            unfold cmpP at h ⊢
            by_cases k0 : (arg0 e).kind = 2
            · rw [if_pos k0] at h ⊢
              by_cases k1 : (arg1 e).kind = 1
              · rw [if_pos k1, mp _ _ _ h1 h6, ev_col r k0, ev_lit r k1]
              · rw [if_neg k1] at h; cases h
            · rw [if_neg k0] at h ⊢
              by_cases k1 : (arg0 e).kind = 1
              · rw [if_pos k1] at h ⊢
                by_cases k2 : (arg1 e).kind = 2
                · rw [if_pos k2, mp _ _ _ (mir_ge h1 h6) (mir_lt h1 h6), ev_col r k2, ev_lit r k1, vtest_mir h1 h6]
                · rw [if_neg k2] at h; cases h
              · rw [if_neg k1] at h; cases h
          · rw [if_neg h6] at h; cases h
        · rw [if_neg h1] at h; cases h
      · rw [if_neg h5] at h; cases h

noncomputable def allT (r : List Val) (l : List Ex) : Bool := l.all fun e => isT (ev r e)
def allP (r : List Val) (l : List Pred) : Bool := l.all fun p => matchP p r
theorem split_all {ts : List Int} {r : List Val} : ∀ (l : List Ex) (s : List Pred × List Ex), (∀ e ∈ l, WT ts e) → (allP r (l.foldl stepP s).1 && allT r (l.foldl stepP s).2) = ((allP r s.1 && allT r s.2) && allT r l)
  | [], s, _ => by simp [allT]
  | e :: l, s, h => by
    have he := h e (by simp)
    rw [List.foldl_cons, split_all l (stepP s e) (fun a ha => h a (by simp [ha]))]
    have e2 : (allP r (stepP s e).1 && allT r (stepP s e).2) = ((allP r s.1 && allT r s.2) && isT (ev r e)) := by
      unfold stepP
      cases hp : (predE e).2 with
      | true =>
        rw [ct]
        simp only [allP, List.all_append, List.all_cons, List.all_nil, Bool.and_true, pred_sound (r := r) he hp]
        cases (s.1.all fun p => matchP p r) <;> cases allT r s.2 <;> cases isT (ev r e) <;> rfl
      | false =>
        rw [cf]
        simp only [allT, List.all_append, List.all_cons, List.all_nil, Bool.and_true]
        cases allP r s.1 <;> cases (s.2.all fun e => isT (ev r e)) <;> cases isT (ev r e) <;> rfl
    rw [e2]
    simp only [allT, List.all_cons, Bool.and_assoc]
theorem all_take {α : Type} (p : α → Bool) {l : List α} {i : Nat} (h : i < l.length) (d : α) : (l.take (i + 1)).all p = ((l.take i).all p && p (l.getD i d)) := by
  rw [List.take_succ_eq_append_getElem h, List.all_append, ← getD_eq h (d := d)]; simp

theorem f10_tail {l : List Ex} {r : List Val} (hl : l.length ≤ 20) (hz : ∀ a ∈ l, sz a ≤ 100000) (hw : ∀ a ∈ l, WT typs a) (hr : ∀ v ∈ r, valid v = true) : F10c3 4000000 l r = some ((true, ()), ()) := by
  have hpm := predS_mem l ([], [])
  have hm1 : (predS l).1.length + (predS l).2.length = l.length := by have := hpm.1; simp only [List.length_nil, Nat.zero_add] at this; exact this
  have hm2 : ∀ a ∈ (predS l).2, a ∈ l := fun a ha => (hpm.2 a ha).resolve_left (by simp)
  have hsp : (allP r (predS l).1 && allT r (predS l).2) = allT r l := by
    have := split_all (r := r) l ([], []) hw
    have h1 : allP r [] = true := rfl
    have h2 : allT r [] = true := rfl
    simp only [h1, h2, Bool.true_and] at this
    exact this
  rw [show F10c3 4000000 l r = _ from F10c3_eq 3999999 l r, bnd (preds_run (by omega) hz hw)]
  simp only []
  generalize (predS l).1 = ps at hm1 hsp
  generalize (predS l).2 = rs at hm1 hm2 hsp
  have third : ∀ n, 1000 ≤ n → F10c14 n l r (allT r l) (allP r ps) 0 ps rs = some ((true, ()), ()) := by
    intro n hn
    obtain ⟨q, e1, rfl⟩ := loop (fun n i b => F10c14 n l r (allT r l) b i ps rs) rs.length 1 0 (fun i b => b = (allP r ps && (rs.take i).all fun e => isT (ev r e))) (fun q => q = ((true, ()), ()))
      (fun n b _ hb => ⟨_, by
        rw [List.take_length] at hb
        have hb2 : b = allT r l := by rw [hb]; exact hsp
        rw [F10c14_eq, cdf (by omega), cdt hb2.symm, wrap64_id (by omega) (by omega), cdt (by omega)], rfl⟩)
      (fun n i b hi hb => .inl ⟨n, b && isT (ev r (rs.getD i zEx)), Nat.le_refl _, by
        have hm := hm2 _ (getD_mem hi zEx)
        rw [F10c14_eq, cdt (by omega), gd hi, Int.toNat_natCast, bnd (true_run hr (hz _ hm) (hw _ hm)), w1 (by omega)]
        cases b <;> rfl, by rw [all_take _ hi zEx, hb, Bool.and_assoc]⟩) rs.length n 0 (allP r ps) (by omega) (by omega) (by omega) (by simp)
    exact e1
  have second : ∀ n, 2000 ≤ n → F10c10 n l r (allT r l) true 0 ps rs = some ((true, ()), ()) := by
    intro n hn
    obtain ⟨q, e1, rfl⟩ := loop (fun n i b => F10c10 n l r (allT r l) b i ps rs) ps.length 1 1000 (fun i b => b = (ps.take i).all fun p => matchP p r) (fun q => q = ((true, ()), ()))
      (fun n b hn hb => ⟨_, by
        rw [List.take_length] at hb
        rw [F10c10_eq, cdf (by omega), hb]
        exact third n hn, rfl⟩)
      (fun n i b hi hb => .inl ⟨n, b && matchP (ps.getD i zPred) r, Nat.le_refl _, by
        rw [F10c10_eq, cdt (by omega), gd hi, Int.toNat_natCast, bnd (match_run _ _), w1 (by omega)]
        cases b <;> rfl, by rw [all_take _ hi zPred, hb]⟩) ps.length n 0 true (by omega) (by omega) (by omega) (by simp)
    exact e1
  obtain ⟨q, e1, rfl⟩ := loop (fun n i b => F10c6 n l r b true i ps rs) l.length 1 2000 (fun i b => b = (l.take i).all fun e => isT (ev r e)) (fun q => q = ((true, ()), ()))
    (fun n b hn hb => ⟨_, by
      rw [List.take_length] at hb
      rw [F10c6_eq, cdf (by omega), hb]
      exact second n hn, rfl⟩)
    (fun n i b hi hb => .inl ⟨n, b && isT (ev r (l.getD i zEx)), Nat.le_refl _, by
      have hm := getD_mem hi zEx
      rw [F10c6_eq, cdt (by omega), gd hi, Int.toNat_natCast, bnd (true_run hr (hz _ hm) (hw _ hm)), w1 (by omega)]
      cases b <;> rfl, by rw [all_take _ hi zEx, hb]⟩) l.length 3999999 0 true (by omega) (by omega) (by omega) (by simp)
  exact e1
theorem f10_run {l : List Ex} {r : List Val} (hs : szL l ≤ 99000) (hr : r.length ≤ 1000000) : F10.run [.v (.sl (.nm 1)), .v (.sl (.nm 0))] [.v .bool] 4000000 (l, r, ()) = some ((true, ()), ()) := by
  have hl := szL_len l
  have hm : ∀ a ∈ l, sz a ≤ 100000 := fun a ha => by have := szL_mem ha; omega
  obtain ⟨b, h1, h2⟩ := all_run (l := l) (by omega) hm
  obtain ⟨c, h3, h4⟩ := fits_run hr
  rw [F10_run, bnd h1]
  cases b with
  | false => rfl
  | true =>
    simp only [Bool.not_true]
    rw [cf, bnd h3]
    cases c with
    | false => rfl
    | true =>
      simp only [Bool.not_true]
      rw [cf, f10_tail (h2 rfl).1 hm (fun a ha => ((h2 rfl).2 a ha).wt) (h4 rfl).valid]
theorem law10 (x : HIn NN.ρ [.v (.sl (.nm 1)), .v (.sl (.nm 0))]) (hm : ∀ k, measI k [.v (.sl (.nm 1)), .v (.sl (.nm 0))] x ≤ 1048576) (ho : ∀ k, okI k [.v (.sl (.nm 1)), .v (.sl (.nm 0))] x) :
    ∃ o, F10.run [.v (.sl (.nm 1)), .v (.sl (.nm 0))] [.v .bool] 4000000 x = some ((true, ()), o) := by
  obtain ⟨l, r, u⟩ := x
  have h0 : ∀ k, (sumL (mEx k) l + 1) + ((sumL (mVal k) r + 1) + 0) ≤ 1048576 := fun k => hm k
  have h := sizes_of_meas (l := l) (B := 1048576) (fun k => by have := h0 k; omega)
  have h3 := h0 1
  have h2 := rows_le (r := r) (B := 1048576) (by omega)
  exact ⟨(), f10_run (by omega) (by omega)⟩
end Go.Proofs.Tryz
