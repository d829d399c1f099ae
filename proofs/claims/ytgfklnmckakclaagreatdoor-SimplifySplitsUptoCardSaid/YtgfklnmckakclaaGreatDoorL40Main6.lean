/- Law 40: what rejects NULL is not true where the slots are NULL. -/
import Derived.Test.YtgfklnmckakclaaGreatDoorL40Law6
import Derived.Test.YtgfklnmckakclaaGreatDoorL40Ev
set_option linter.unusedVariables false
set_option linter.unusedSimpArgs false
namespace Go.Proofs.Tryz
open Go.Eng

/-- What is known of a value is so. -/
def Known.of (k : Known) (v : Val) : Prop := (k.f_null = true → v.kind = 0) ∧ (k.notTrue = true → isT v = false) ∧ (k.notFalse = true → isF v = false)
theorem known_close {k : Known} {v : Val} (h : k.of v) : (closeK k).of v := by
  unfold closeK
  cases hn : k.f_null with
  | false => exact h
  | true =>
    have h0 := h.1 hn
    refine ⟨fun _ => h0, fun _ => ?_, fun _ => ?_⟩
    · unfold isT; rw [h0]; rfl
    · unfold isF; rw [h0]; rfl
theorem isT_b (b : Bool) : isT (vbool b) = b := by cases b <;> rfl
theorem isF_b (b : Bool) : isF (vbool b) = !b := by cases b <;> rfl
theorem isT_0 {v : Val} (h : v.kind = 0) : isT v = false := by unfold isT; rw [h]; rfl
theorem isF_0 {v : Val} (h : v.kind = 0) : isF v = false := by unfold isF; rw [h]; rfl
theorem and2 (a b : Val) : andL false [a, b] = (bif isF a then vbool false else bif isF b then vbool false else bif !isT a || !isT b then zVal else vbool true) := by
  simp only [andL, Bool.false_or]
theorem or2 (a b : Val) : orL false [a, b] = (bif isT a then vbool true else bif isT b then vbool true else bif !isF a || !isF b then zVal else vbool false) := by
  simp only [orL, Bool.false_or]
theorem or_null : ∀ (l : List Val) (u : Bool), (∀ v ∈ l, v.kind = 0) → (u = true ∨ l ≠ []) → orL u l = zVal
  | [], u, _, h => by
    rcases h with h | h
    · rw [h]; rfl
    · exact absurd rfl h
  | v :: l, u, h, _ => by
    have h0 := h v (by simp)
    rw [orL, isT_0 h0, isF_0 h0, cf]
    exact or_null l _ (fun w hw => h w (by simp [hw])) (.inl (by simp))
theorem test_null {op : Int} {a b : Val} (h : a.kind = 0 ∨ b.kind = 0) : vtest op a b = zVal := by
  unfold vtest
  by_cases ha : a.kind = 0
  · rw [decide_eq_true ha]; rfl
  · rw [decide_eq_false ha, cf, decide_eq_false (by rcases h with h | h <;> omega)]; rfl
theorem bin_null {op : Int} {a b : Val} (h7 : op ≠ 7) (h8 : op ≠ 8) (h : a.kind = 0 ∨ b.kind = 0) : vBin op a b = zVal := by
  unfold vBin
  rw [decide_eq_false h7, decide_eq_false h8, cf, cf]
  have h2 : (a.kind ≠ 2 ∨ b.kind ≠ 2) ∧ (a.kind ≠ 3 ∨ b.kind ≠ 3) := by omega
  have ha : vArith op a b = zVal := by
    unfold vArith
    by_cases k : a.kind = 2
    · rw [decide_eq_true k, decide_eq_false (show ¬ b.kind = 2 by omega)]; rfl
    · rw [decide_eq_false k]; rfl
  have hc : vConcat a b = zVal := by
    unfold vConcat
    by_cases k : a.kind = 3
    · rw [decide_eq_true k, decide_eq_false (show ¬ b.kind = 3 by omega)]; rfl
    · rw [decide_eq_false k]; rfl
  have hl : vLike a b = zVal := by
    unfold vLike
    by_cases k : a.kind = 3
    · rw [decide_eq_true k, decide_eq_false (show ¬ b.kind = 3 by omega)]; rfl
    · rw [decide_eq_false k]; rfl
  rw [ha, hc, hl, test_null h]
  cases (decide (op = 9) || (decide (op = 10) || (decide (op = 11) || (decide (op = 12) || decide (op = 13))))) <;> cases decide (op = 14) <;> cases decide (op = 15) <;> rfl

theorem known_z (v : Val) : zKnown.of v := ⟨(fun h => by cases h), (fun h => by cases h), (fun h => by cases h)⟩
theorem isIn_mem {s : List Int} {x : Int} (h : isIn s x = true) : x ∈ s := by
  unfold isIn at h
  obtain ⟨y, hy, e⟩ := List.any_eq_true.1 h
  rw [← of_decide_eq_true e]; exact hy
theorem inf_sound {ts s : List Int} {r : List Val} (hr : ∀ v ∈ r, valid v = true) (hs : ∀ i ∈ s, (atV r i).kind = 0) : ∀ (k : Nat) (e : Ex), sz e ≤ k → WT ts e → (inf s e).of (ev r e)
  | 0, e, h, _ => by have := sz_pos e; omega
  | k + 1, e, h, hw => by
    have ih : ∀ i, i < e.args.length → ((e.args.map (inf s)).getD i zKnown).of ((e.args.map (ev r)).getD i zVal) := fun i hi => by
      have hm := getD_mem hi zEx
      have h1 := inf_sound hr hs k _ (by have := sz_arg hm; omega) (hw.inv.2.2 _ hm)
      rw [map_getD hi]
      rw [show (e.args.map (ev r)).getD i zVal = ev r (e.args.getD i zEx) by rw [getD_eq (by rw [List.length_map]; exact hi), getD_eq hi, List.getElem_map]]
      exact h1
    have hlen : (e.args.map (ev r)).length = e.args.length := List.length_map _
    have hav : ∀ v ∈ e.args.map (ev r), valid v = true := fun v hv => by
      obtain ⟨a, ha, rfl⟩ := List.mem_map.1 hv
      exact ev_valid hr (sz a) a (Nat.le_refl _) (hw.inv.2.2 a ha)
    have hv0 := valid_get hav 0
    rw [inf_eq, ev_eq]
    refine known_close ?_
    unfold infNode evN
    by_cases h1 : e.kind = 1
    · rw [if_pos h1, if_pos h1]
      refine ⟨fun h => of_decide_eq_true h, fun h => ?_, fun h => ?_⟩
      · have := valid_isT (hw.lit h1) true
        simp only at h
        rw [this, Bool.not_eq_true'] at h
        exact h
      · have := valid_isT (hw.lit h1) false
        simp only at h
        rw [this, Bool.not_eq_true'] at h
        exact h
    rw [if_neg h1, if_neg h1]
    by_cases h2 : e.kind = 2
    · rw [if_pos h2, if_pos h2]
      exact ⟨fun h => hs _ (isIn_mem h), (fun h => by cases h), (fun h => by cases h)⟩
    rw [if_neg h2, if_neg h2]
    by_cases h3 : e.kind = 3
    · have hl := hw.one (.inl h3)
      have i0 := ih 0 (by omega)
      rw [if_pos h3, if_pos h3]
      generalize (e.args.map (inf s)).getD 0 zKnown = a at i0
      generalize (e.args.map (ev r)).getD 0 zVal = v at i0 hv0
      unfold vNot
      refine ⟨fun h => ?_, fun h => ?_, fun h => ?_⟩
      · rw [decide_eq_false (show ¬ v.kind = 1 by have := i0.1 h; omega)]; rfl
      · have := i0.2.2 h
        unfold isF at this
        cases hk : decide (v.kind = 1) with
        | false => rfl
        | true => rw [hk, Bool.true_and] at this; rw [Bool.not_true, cf, this]; rfl
      · have := i0.2.1 h
        unfold isT at this
        cases hk : decide (v.kind = 1) with
        | false => rfl
        | true =>
          rw [hk, Bool.true_and] at this
          have h1 := (valid_bool hv0 (of_decide_eq_true hk)).2
          have h2 : ¬ v.int = 1 := of_decide_eq_false this
          rw [Bool.not_true, cf, isF_b, decide_eq_true (show v.int = 0 by omega)]; rfl
    rw [if_neg h3, if_neg h3]
    by_cases h4 : e.kind = 4
    · have hl := hw.one (.inr (.inl h4))
      have i0 := ih 0 (by omega)
      rw [if_pos (show e.kind = 4 ∨ e.kind = 7 from .inl h4), if_pos h4]
      refine ⟨fun h => ?_, (fun h => by cases h), (fun h => by cases h)⟩
      unfold vNeg
      rw [decide_eq_false (show ¬ ((e.args.map (ev r)).getD 0 zVal).kind = 2 by have := i0.1 h; omega)]; rfl
    rw [if_neg h4]
    by_cases h7 : e.kind = 7
    · have hl := hw.ge h7
      have i0 := ih 0 (by omega)
      rw [if_pos (show e.kind = 4 ∨ e.kind = 7 from .inr h7), if_neg (show ¬ e.kind = 5 by omega), if_neg (show ¬ e.kind = 6 by omega), if_pos h7]
      refine ⟨fun h => ?_, (fun h => by cases h), (fun h => by cases h)⟩
      have h0 := i0.1 h
      have : vIn (e.args.map (ev r)) = zVal := by
        unfold vIn
        refine or_null _ _ (fun v hv => ?_) (.inr ?_)
        · obtain ⟨w, hw, rfl⟩ := List.mem_map.1 hv
          rw [test_null (.inl h0)]; rfl
        · intro he
          have := congrArg List.length he
          rw [List.length_map, List.length_drop, hlen] at this
          simp at this
          omega
      rw [this]; rfl
    rw [if_neg (show ¬ (e.kind = 4 ∨ e.kind = 7) by omega)]
    by_cases h6 : e.kind = 6
    · have hl := hw.one (.inr (.inr h6))
      have i0 := ih 0 (by omega)
      rw [if_pos h6, if_neg (show ¬ e.kind = 5 by omega), if_pos h6]
      refine ⟨(fun h => by cases h), (fun h => by cases h), fun h => ?_⟩
      rw [isF_b, decide_eq_true (i0.1 h)]; rfl
    rw [if_neg h6]
    by_cases h5 : e.kind = 5
    · have hl := hw.two h5
      have i0 := ih 0 (by omega)
      have i1 := ih 1 (by omega)
      rw [if_pos h5, if_pos h5]
      generalize (e.args.map (inf s)).getD 0 zKnown = a at i0
      generalize (e.args.map (inf s)).getD 1 zKnown = b at i1
      generalize (e.args.map (ev r)).getD 0 zVal = v at i0
      generalize (e.args.map (ev r)).getD 1 zVal = w at i1
      unfold infB
      by_cases o7 : e.op = 7
      · rw [if_pos o7, show vBin e.op v w = andL false [v, w] by unfold vBin; rw [decide_eq_true o7]; rfl, and2]
        refine ⟨fun h => ?_, fun h => ?_, fun h => ?_⟩
        · rw [Bool.and_eq_true] at h
          rw [isF_0 (i0.1 h.1), isF_0 (i1.1 h.2), isT_0 (i0.1 h.1)]; rfl
        · rw [Bool.or_eq_true] at h
          rcases h with h | h
          · rw [i0.2.1 h]; cases isF v <;> cases isF w <;> rfl
          · rw [i1.2.1 h]; cases isF v <;> cases isF w <;> cases isT v <;> rfl
        · rw [Bool.and_eq_true] at h
          rw [i0.2.2 h.1, i1.2.2 h.2]; cases isT v <;> cases isT w <;> rfl
      rw [if_neg o7]
      by_cases o8 : e.op = 8
      · rw [if_pos o8, show vBin e.op v w = orL false [v, w] by unfold vBin; rw [decide_eq_false o7, decide_eq_true o8]; rfl, or2]
        refine ⟨fun h => ?_, fun h => ?_, fun h => ?_⟩
        · rw [Bool.and_eq_true] at h
          rw [isT_0 (i0.1 h.1), isT_0 (i1.1 h.2), isF_0 (i0.1 h.1)]; rfl
        · rw [Bool.and_eq_true] at h
          rw [i0.2.1 h.1, i1.2.1 h.2]; cases isF v <;> cases isF w <;> rfl
        · rw [Bool.or_eq_true] at h
          rcases h with h | h
          · rw [i0.2.2 h]; cases isT v <;> cases isT w <;> rfl
          · rw [i1.2.2 h]; cases isT v <;> cases isT w <;> cases isF v <;> rfl
      rw [if_neg o8]
      refine ⟨fun h => ?_, (fun h => by cases h), (fun h => by cases h)⟩
      rw [Bool.or_eq_true] at h
      rw [bin_null o7 o8 (h.imp i0.1 i1.1)]; rfl
    rw [if_neg h5, if_neg h5]
    exact known_z _

/-! ## The slots that are made NULL -/
def nulS (s : List Int) (r : List Val) : List Val := s.foldl (fun r i => if 0 ≤ i ∧ i < (r.length : Int) then r.set i.toNat zVal else r) r
theorem atV_set {r : List Val} {i : Nat} (j : Int) (hi : i < r.length) : atV (r.set i zVal) j = if j = i then zVal else atV r j := by
  unfold atV
  rw [List.length_set]
  by_cases h0 : j < 0
  · rw [cdt h0, cdt h0]; split <;> rfl
  rw [cdf h0, cdf h0]
  by_cases h1 : (r.length : Int) ≤ j
  · rw [cdt h1, cdt h1]; split <;> rfl
  rw [cdf h1, cdf h1]
  obtain ⟨m, rfl⟩ : ∃ m : Nat, j = m := ⟨j.toNat, by omega⟩
  rw [Int.toNat_natCast, List.getD_eq_getElem?_getD, List.getD_eq_getElem?_getD, List.getElem?_set]
  by_cases h2 : i = m
  · rw [if_pos h2, if_pos hi, if_pos (by omega)]; rfl
  · rw [if_neg h2, if_neg (by omega)]
theorem nulS_spec : ∀ (s : List Int) (r : List Val), (∀ v ∈ r, valid v = true) → (nulS s r).length = r.length ∧ (∀ v ∈ nulS s r, valid v = true) ∧ (∀ j, (atV r j).kind = 0 → (atV (nulS s r) j).kind = 0) ∧ ∀ i ∈ s, (atV (nulS s r) i).kind = 0
  | [], r, h => ⟨rfl, h, fun _ h => h, fun i hi => by cases hi⟩
  | i :: s, r, h => by
    by_cases hi : 0 ≤ i ∧ i < (r.length : Int)
    · have e : nulS (i :: s) r = nulS s (r.set i.toNat zVal) := by unfold nulS; rw [List.foldl_cons, if_pos hi]
      have hn : i.toNat < r.length := by omega
      have hin : i = ((i.toNat : Nat) : Int) := by omega
      obtain ⟨h1, h2, h3, h4⟩ := nulS_spec s (r.set i.toNat zVal) (fun v hv => by
        rcases List.mem_or_eq_of_mem_set hv with hv | hv
        · exact h v hv
        · rw [hv]; rfl)
      rw [e]
      refine ⟨by rw [h1, List.length_set], h2, fun j hj => h3 j ?_, fun j hj => ?_⟩
      · rw [atV_set j hn]; split
        · rfl
        · exact hj
      · rcases List.mem_cons.1 hj with rfl | hj
        · exact h3 _ (by rw [atV_set _ hn, if_pos hin]; rfl)
        · exact h4 j hj
    · have e : nulS (i :: s) r = nulS s r := by unfold nulS; rw [List.foldl_cons, if_neg hi]
      obtain ⟨h1, h2, h3, h4⟩ := nulS_spec s r h
      rw [e]
      refine ⟨h1, h2, h3, fun j hj => ?_⟩
      rcases List.mem_cons.1 hj with rfl | hj
      · refine h3 _ ?_
        unfold atV
        by_cases h0 : j < 0
        · rw [cdt h0]; rfl
        · rw [cdf h0, cdt (by omega)]; rfl
      · exact h4 j hj

theorem f6_tail {e : Ex} {s : List Int} {r : List Val} (hz : sz e ≤ 99000) (hsl : s.length ≤ 20) (hrl : r.length = 8) (hr : ∀ v ∈ r, valid v = true) (hw : WT typs e) (hn : (inf s e).notTrue = true) : F6c3 4000000 s r e = some ((true, ()), ()) := by
  rw [show F6c3 4000000 s r e = _ from F6c3_eq 3999999 s r e, if_pos (by unfold lim; omega), List.nil_append]
  obtain ⟨q, e1, rfl⟩ := loop (fun n i x => F6c6 n s i e x) s.length 2 0 (fun i x => x = nulS (s.take i) r) (fun q => q = ((true, ()), ()))
    (fun n x _ hx => ⟨_, by
      rw [List.take_length] at hx
      obtain ⟨h1, h2, h3, h4⟩ := nulS_spec s r hr
      rw [F6c6_eq, cdf (by omega), hx, bnd (true_run h2 (by omega) hw)]
      simp only []
      rw [(inf_sound h2 h4 (sz e) e (Nat.le_refl _) hw).2.1 hn, Bool.not_false, ct], rfl⟩)
    (fun n i x hi hx => .inl ⟨n, nulS (s.take (i + 1)) r, Nat.le_refl _, by
      have e2 : nulS (s.take (i + 1)) r = if 0 ≤ s.getD i 0 ∧ s.getD i 0 < (x.length : Int) then x.set (s.getD i 0).toNat zVal else x := by
        rw [hx]; unfold nulS; rw [foldl_take _ _ hi 0]
      rw [F6c6_eq, cdt (by omega), gd hi, gd hi, gd hi, Int.toNat_natCast, e2]
      by_cases h0 : 0 ≤ s.getD i 0
      · by_cases h1 : s.getD i 0 < (x.length : Int)
        · rw [cdt h0, cdt h1, if_pos h0, if_pos h1, if_pos (And.intro h0 h1), F6c7_eq, w1 (by omega)]
        · rw [cdt h0, cdf h1, if_neg (fun h => h1 h.2), F6c7_eq, w1 (by omega)]
      · rw [cdf h0, if_neg (fun h => h0 h.1), F6c7_eq, w1 (by omega)], rfl⟩) s.length 3999999 0 r (by omega) (by omega) (by omega) rfl
  exact e1
theorem f6_run {e : Ex} {s : List Int} {r : List Val} (hz : sz e ≤ 99000) (hs : s.length ≤ 1100000) (hr : r.length ≤ 1000000) : F6.run [.v (.nm 1), .v (.sl (.int .i64)), .v (.sl (.nm 0))] [.v .bool] 4000000 (e, s, r, ()) = some ((true, ()), ()) := by
  obtain ⟨b, h1, h2⟩ := fine_run (e := e) (by omega)
  obtain ⟨c, h3, h4⟩ := fits_run hr
  rw [F6_run, bnd h1]
  cases b with
  | false => rfl
  | true =>
    simp only [Bool.not_true]
    rw [cf, bnd h3]
    cases c with
    | false => rfl
    | true =>
      simp only [Bool.not_true]
      rw [cf]
      by_cases h20 : (20 : Int) < (s.length : Int)
      · rw [cdt h20]
      · have hw := (h2 rfl).wt
        rw [cdf h20, bnd (rejects_run (by omega) (by omega) hw)]
        simp only []
        cases hn : (inf s e).notTrue with
        | false => rfl
        | true =>
          rw [Bool.not_true, cf, f6_tail hz (by omega) (h4 rfl).len (h4 rfl).valid hw hn]
theorem sumL_len {α : Type} (f : α → Nat) (h : ∀ x, 1 ≤ f x) : ∀ l : List α, l.length ≤ sumL f l
  | [] => Nat.le_refl _
  | x :: l => by
    have := sumL_len f h l
    have := h x
    simp only [sumL, List.length_cons]; omega
theorem mVal_eq (k : Nat) (v : Val) : mVal (k + 1) v = (1 + (1 + ((v.text.length + 1) + 0))) + 1 := rfl
theorem rows_le {r : List Val} {B : Nat} (h : sumL (mVal 1) r ≤ B) : 4 * r.length ≤ B := by
  have h1 := sumL_mem (mVal 1) (fun _ => 1) 4 r (fun v _ => by rw [mVal_eq]; omega)
  have h2 := sumL_len (fun _ : Val => 1) (fun _ => Nat.le_refl _) r
  omega
theorem law6 (x : HIn NN.ρ [.v (.nm 1), .v (.sl (.int .i64)), .v (.sl (.nm 0))]) (hm : ∀ k, measI k [.v (.nm 1), .v (.sl (.int .i64)), .v (.sl (.nm 0))] x ≤ 1048576) (ho : ∀ k, okI k [.v (.nm 1), .v (.sl (.int .i64)), .v (.sl (.nm 0))] x) :
    ∃ o, F6.run [.v (.nm 1), .v (.sl (.int .i64)), .v (.sl (.nm 0))] [.v .bool] 4000000 x = some ((true, ()), o) := by
  obtain ⟨e, s, r, u⟩ := x
  have h0 : ∀ k, mEx k e + ((sumL (fun _ : Int => 1) s + 1) + ((sumL (mVal k) r + 1) + 0)) ≤ 1048576 := fun k => hm k
  have h' := size_of_meas (e := e) (B := 1048576) (fun k => by have := h0 k; omega)
  have h1 := sumL_len (fun _ : Int => 1) (fun _ => Nat.le_refl _) s
  have h3 := h0 1
  have h2 := rows_le (r := r) (B := 1048576) (by omega)
  exact ⟨(), f6_run (by omega) (by omega) (by omega)⟩
end Go.Proofs.Tryz
