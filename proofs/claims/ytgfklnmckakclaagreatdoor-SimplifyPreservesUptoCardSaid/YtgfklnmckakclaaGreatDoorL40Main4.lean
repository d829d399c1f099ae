/- Law 40: the equalities that join. -/
import Derived.Test.YtgfklnmckakclaaGreatDoorL40EqJ
import Derived.Test.YtgfklnmckakclaaGreatDoorL40Typ
import Derived.Test.YtgfklnmckakclaaGreatDoorL40Law4
set_option linter.unusedVariables false
set_option linter.unusedSimpArgs false
namespace Go.Proofs.Tryz
open Go.Eng

theorem bt5 {ts : List Int} {e : Ex} {l : List Int} (h : e.kind = 5) : btype ts e l = binT e.op l := by unfold btype; rw [h]; rfl
theorem WT.two {ts : List Int} {e : Ex} (h : WT ts e) (hk : e.kind = 5) : e.args.length = 2 := by
  have h1 := h.inv.2.1
  rw [bt5 hk] at h1
  unfold binT at h1
  by_cases h2 : e.args.length = 2
  · exact h2
  · rw [cond_eq_ite, if_pos (by rw [List.length_map, decide_eq_false (by omega)]; rfl)] at h1
    cases (Prod.mk.inj h1).2

def joinK (left : Int) (e : Ex) : Option Pair :=
  bif decide (e.kind = 5) && (decide (e.op = 1) && (decide ((e.args.getD 0 zEx).kind = 2) && (decide ((e.args.getD 1 zEx).kind = 2) && (decide (imin (e.args.getD 0 zEx).slot (e.args.getD 1 zEx).slot < left) && decide (left ≤ imax (e.args.getD 0 zEx).slot (e.args.getD 1 zEx).slot)))))
  then some ⟨imin (e.args.getD 0 zEx).slot (e.args.getD 1 zEx).slot, IntKind.i64.wrap (imax (e.args.getD 0 zEx).slot (e.args.getD 1 zEx).slot - left)⟩ else none
def stepJ (left : Int) (s : List Pair × List Ex) (e : Ex) : List Pair × List Ex := match joinK left e with
  | some p => (s.1 ++ [p], s.2)
  | none => (s.1, s.2 ++ [e])
theorem stepJ_len (left : Int) (s : List Pair × List Ex) (e : Ex) : (stepJ left s e).1.length + (stepJ left s e).2.length = s.1.length + s.2.length + 1 := by
  unfold stepJ
  cases joinK left e <;> simp <;> omega
theorem foldl_take {α β : Type} (f : β → α → β) (b : β) {l : List α} {i : Nat} (h : i < l.length) (d : α) : (l.take (i + 1)).foldl f b = f ((l.take i).foldl f b) (l.getD i d) := by
  rw [List.take_succ_eq_append_getElem h, List.foldl_append, getD_eq h]; rfl

theorem join_one {left : Int} {l : List Ex} {i : Nat} {p : List Pair} {r : List Ex} (hi : i < l.length) (hl : l.length ≤ 1000000) (hp : p.length + r.length ≤ i) (h2 : (l.getD i zEx).kind = 5 → (l.getD i zEx).args.length = 2) (n : Nat) :
    ∃ n', n ≤ n' ∧ F17c2 (n + 3) left l (l.length : Nat) i p r = F17c2 n' left l (l.length : Nat) ((i + 1 : Nat) : Int) (stepJ left (p, r) (l.getD i zEx)).1 (stepJ left (p, r) (l.getD i zEx)).2 := by
  rw [F17c2_eq, cdt (by omega), gd hi, Int.toNat_natCast]
  have h8 : joinK left (l.getD i zEx) = none → ∃ n', n ≤ n' ∧ F17c8 (n + 2) left l (l.length : Nat) i p r (l.getD i zEx) = F17c2 n' left l (l.length : Nat) ((i + 1 : Nat) : Int) (stepJ left (p, r) (l.getD i zEx)).1 (stepJ left (p, r) (l.getD i zEx)).2 := by
    intro h
    refine ⟨n, Nat.le_refl _, ?_⟩
    rw [F17c8_eq, if_pos (by unfold lim; omega), F17c9_eq, w1 (by omega)]
    unfold stepJ
    rw [h]
  unfold joinK at h8
  by_cases k5 : (l.getD i zEx).kind = 5
  · have k2 := h2 k5
    have t0 : Int.toNat 0 = 0 := rfl
    have t1 : Int.toNat 1 = 1 := rfl
    rw [cdt k5]
    simp only [if_pos (show (0 : Int) < ((l.getD i zEx).args.length : Int) by omega), if_pos (show (1 : Int) < ((l.getD i zEx).args.length : Int) by omega)]
    rw [t0, t1]
    by_cases c1 : (l.getD i zEx).op = 1
    · by_cases c2 : ((l.getD i zEx).args.getD 0 zEx).kind = 2
      · by_cases c3 : ((l.getD i zEx).args.getD 1 zEx).kind = 2
        · by_cases c4 : imin ((l.getD i zEx).args.getD 0 zEx).slot ((l.getD i zEx).args.getD 1 zEx).slot < left
          · by_cases c5 : left ≤ imax ((l.getD i zEx).args.getD 0 zEx).slot ((l.getD i zEx).args.getD 1 zEx).slot
            · rw [cdt c1, cdt c2, cdt c3, cdt c4, cdt c5, if_pos (by unfold lim; omega)]
              refine ⟨n + 1, by omega, ?_⟩
              rw [F17c9_eq, w1 (by omega)]
              unfold stepJ joinK
              rw [decide_eq_true k5, decide_eq_true c1, decide_eq_true c2, decide_eq_true c3, decide_eq_true c4, decide_eq_true c5]
              rfl
            · rw [cdt c1, cdt c2, cdt c3, cdt c4, cdf c5]; exact h8 (by rw [decide_eq_false c5]; simp)
          · rw [cdt c1, cdt c2, cdt c3, cdf c4]; exact h8 (by rw [decide_eq_false c4]; simp)
        · rw [cdt c1, cdt c2, cdf c3]; exact h8 (by rw [decide_eq_false c3]; simp)
      · rw [cdt c1, cdf c2]; exact h8 (by rw [decide_eq_false c2]; simp)
    · rw [cdf c1]; exact h8 (by rw [decide_eq_false c1]; simp)
  · rw [cdf k5]; exact h8 (by rw [decide_eq_false k5]; simp)

theorem rjoin_one {left : Int} {l : List Ex} {i : Nat} {p : List Pair} {r : List Ex} (hi : i < l.length) (hl : l.length ≤ 1000000) (hp : p.length + r.length ≤ i) (h2 : (l.getD i zEx).kind = 5 → (l.getD i zEx).args.length = 2) (n : Nat) :
    ∃ n', n ≤ n' ∧ F18c4 (n + 3) l left i p r = F18c4 n' l left ((i + 1 : Nat) : Int) (stepJ left (p, r) (l.getD i zEx)).1 (stepJ left (p, r) (l.getD i zEx)).2 := by
  rw [F18c4_eq, cdt (by omega), gd hi, Int.toNat_natCast]
  have h8 : joinK left (l.getD i zEx) = none → ∃ n', n ≤ n' ∧ F18c11 (n + 2) l left i p r (l.getD i zEx) = F18c4 n' l left ((i + 1 : Nat) : Int) (stepJ left (p, r) (l.getD i zEx)).1 (stepJ left (p, r) (l.getD i zEx)).2 := by
    intro h
    refine ⟨n, Nat.le_refl _, ?_⟩
    rw [F18c11_eq, if_pos (by unfold lim; omega), F18c5_eq, w1 (by omega)]
    unfold stepJ
    rw [h]
  unfold joinK at h8
  by_cases k5 : (l.getD i zEx).kind = 5
  · have k2 := h2 k5
    have t0 : Int.toNat 0 = 0 := rfl
    have t1 : Int.toNat 1 = 1 := rfl
    rw [cdt k5]
    simp only [if_pos (show (0 : Int) < ((l.getD i zEx).args.length : Int) by omega), if_pos (show (1 : Int) < ((l.getD i zEx).args.length : Int) by omega)]
    rw [t0, t1]
    by_cases c1 : (l.getD i zEx).op = 1
    · by_cases c2 : ((l.getD i zEx).args.getD 0 zEx).kind = 2
      · by_cases c3 : ((l.getD i zEx).args.getD 1 zEx).kind = 2
        · by_cases c4 : imin ((l.getD i zEx).args.getD 0 zEx).slot ((l.getD i zEx).args.getD 1 zEx).slot < left
          · by_cases c5 : left ≤ imax ((l.getD i zEx).args.getD 0 zEx).slot ((l.getD i zEx).args.getD 1 zEx).slot
            · rw [cdt c1, cdt c2, cdt c3, cdt c4, cdt c5, if_pos (by unfold lim; omega)]
              refine ⟨n + 1, by omega, ?_⟩
              rw [F18c5_eq, w1 (by omega)]
              unfold stepJ joinK
              rw [decide_eq_true k5, decide_eq_true c1, decide_eq_true c2, decide_eq_true c3, decide_eq_true c4, decide_eq_true c5]
              rfl
            · rw [cdt c1, cdt c2, cdt c3, cdt c4, cdf c5]; exact h8 (by rw [decide_eq_false c5]; simp)
          · rw [cdt c1, cdt c2, cdt c3, cdf c4]; exact h8 (by rw [decide_eq_false c4]; simp)
        · rw [cdt c1, cdt c2, cdf c3]; exact h8 (by rw [decide_eq_false c3]; simp)
      · rw [cdt c1, cdf c2]; exact h8 (by rw [decide_eq_false c2]; simp)
    · rw [cdf c1]; exact h8 (by rw [decide_eq_false c1]; simp)
  · rw [cdf k5]; exact h8 (by rw [decide_eq_false k5]; simp)

def joinS (left : Int) (l : List Ex) : List Pair × List Ex := l.foldl (stepJ left) ([], [])
theorem joinS_mem (left : Int) : ∀ (l : List Ex) (s : List Pair × List Ex), (l.foldl (stepJ left) s).1.length + (l.foldl (stepJ left) s).2.length = s.1.length + s.2.length + l.length ∧ ∀ a ∈ (l.foldl (stepJ left) s).2, a ∈ s.2 ∨ a ∈ l
  | [], s => ⟨by simp, fun a h => .inl h⟩
  | e :: l, s => by
    obtain ⟨h1, h2⟩ := joinS_mem left l (stepJ left s e)
    have h3 := stepJ_len left s e
    rw [List.foldl_cons, List.length_cons]
    refine ⟨by omega, fun a h => ?_⟩
    rcases h2 a h with h | h
    · unfold stepJ at h
      cases hj : joinK left e with
      | some p => rw [hj] at h; exact .inl h
      | none =>
        rw [hj] at h
        rcases List.mem_append.1 h with h | h
        · exact .inl h
        · rw [List.mem_singleton.1 h]; exact .inr (List.mem_cons_self ..)
    · exact .inr (List.mem_cons_of_mem _ h)

theorem join_run {left : Int} {l : List Ex} (hl : l.length ≤ 1000000) (h2 : ∀ a ∈ l, a.kind = 5 → a.args.length = 2) :
    F17.run [PK.v (Ty.nm 1).sl, PK.v (Ty.int .i64)] [RK.own 37 (Ty.nm 2), RK.own 27 (Ty.nm 1)] 4000000 (l, left, ()) = some (((joinS left l).1, (joinS left l).2, ()), ()) := by
  rw [F17_run, show F17c1 4000000 l left [] [] = _ from F17c1_eq 3999999 l left [] []]
  obtain ⟨r, e, rfl⟩ := loop (fun n i (s : List Pair × List Ex) => F17c2 n left l (l.length : Nat) i s.1 s.2) l.length 3 0 (fun i s => s = (l.take i).foldl (stepJ left) ([], [])) (fun r => r = (((joinS left l).1, (joinS left l).2, ()), ()))
    (fun n s _ hs => ⟨_, by rw [F17c2_eq, cdf (by omega)], by
      rw [List.take_length] at hs
      rw [hs]; rfl⟩)
    (fun n i s hi hs => by
      have h3 := (joinS_mem left (l.take i) ([], [])).1
      rw [← hs, List.length_take] at h3
      obtain ⟨n', hn, e⟩ := join_one (left := left) (p := s.1) (r := s.2) hi hl (by simp at h3; omega) (h2 _ (getD_mem hi zEx)) n
      exact .inl ⟨n', stepJ left s (l.getD i zEx), hn, e, by rw [foldl_take _ _ hi zEx, ← hs]⟩) l.length 3999999 0 ([], []) (by omega) (by omega) (by omega) rfl
  exact e
theorem rjoin_run {left : Int} {l : List Ex} (hl : l.length ≤ 1000000) (h2 : ∀ a ∈ l, a.kind = 5 → a.args.length = 2) :
    F18.run [PK.v (Ty.nm 1).sl, PK.v (Ty.int .i64)] [RK.own 37 (Ty.nm 2), RK.own 27 (Ty.nm 1)] 4000000 (l, left, ()) = some (((joinS left l).1, (joinS left l).2, ()), ()) := by
  rw [F18_run, show F18c1 4000000 l left = _ from F18c1_eq 3999999 l left]
  obtain ⟨r, e, rfl⟩ := loop (fun n i (s : List Pair × List Ex) => F18c4 n l left i s.1 s.2) l.length 3 0 (fun i s => s = (l.take i).foldl (stepJ left) ([], [])) (fun r => r = (((joinS left l).1, (joinS left l).2, ()), ()))
    (fun n s _ hs => ⟨_, by rw [F18c4_eq, cdf (by omega)], by
      rw [List.take_length] at hs
      rw [hs]; rfl⟩)
    (fun n i s hi hs => by
      have h3 := (joinS_mem left (l.take i) ([], [])).1
      rw [← hs, List.length_take] at h3
      obtain ⟨n', hn, e⟩ := rjoin_one (left := left) (p := s.1) (r := s.2) hi hl (by simp at h3; omega) (h2 _ (getD_mem hi zEx)) n
      exact .inl ⟨n', stepJ left s (l.getD i zEx), hn, e, by rw [foldl_take _ _ hi zEx, ← hs]⟩) l.length 3999999 0 ([], []) (by omega) (by omega) (by omega) rfl
  exact e

theorem pairs_same {p : List Pair} (h : p.length ≤ 1000000) : F4c7 4000000 p p = some ((true, ()), ()) := by
  rw [show F4c7 4000000 p p = _ from F4c7_eq 3999999 p p]
  obtain ⟨r, e, rfl⟩ := loop (fun n i (_ : Unit) => F4c8 n i p p) p.length 1 0 (fun i s => True) (fun r => r = ((true, ()), ()))
    (fun n s _ hs => ⟨_, by rw [F4c8_eq, cdf (by omega)], rfl⟩)
    (fun n i s hi hs => .inl ⟨n, (), Nat.le_refl _, by
      rw [F4c8_eq, cdt (by omega), gd hi, gd hi, Int.toNat_natCast, w1 (by omega)]
      simp, trivial⟩) p.length 3999999 0 () (by omega) (by omega) (by omega) trivial
  exact e
theorem f4_run {l : List Ex} {left : Int} (hl : l.length ≤ 1000000) (h : ∀ a ∈ l, sz a ≤ 100000) : F4.run [.v (.sl (.nm 1)), .v (.int .i64)] [.v .bool] 4000000 (l, left, ()) = some ((true, ()), ()) := by
  rw [F4_run]
  obtain ⟨b, h1, h2⟩ := all_run hl h
  rw [h1, Option.bind_some]
  cases b with
  | false => rfl
  | true =>
    have hw : ∀ a ∈ l, a.kind = 5 → a.args.length = 2 := fun a ha => ((h2 rfl).2 a ha).wt.two
    have hm := joinS_mem left l ([], [])
    simp only [Bool.not_true, cond_false]
    rw [bnd (join_run hl hw), bnd (rjoin_run hl hw)]
    have hm1 : (joinS left l).1.length + (joinS left l).2.length = l.length := by have := hm.1; simp only [List.length_nil, Nat.zero_add] at this; exact this
    have hm2 : ∀ a ∈ (joinS left l).2, a ∈ l := fun a ha => (hm.2 a ha).resolve_left (by simp)
    simp only [decide_true, Bool.not_true, cond_false]
    have e := pairs_same (p := (joinS left l).1) (by omega)
    rw [bnd (same_run (by omega) (fun a ha => h a (hm2 a ha))), Bool.not_true, cond_false, e]

theorem measT_sl (k : Nat) (l : List Ex) : measT (measK NN k) (.sl (.nm 1)) l = sumL (mEx k) l + 1 := rfl
theorem sizes_of_meas {l : List Ex} {B : Nat} (h : ∀ k, sumL (mEx k) l + 1 ≤ B) : 11 * szL l ≤ B := by
  have h1 := sumL_mem (mEx (2 * szL l)) sz 11 l (fun a ha => meas_sz _ a (by have := szL_mem ha; omega))
  have h2 := h (2 * szL l)
  have h3 := szL_sum l
  omega
theorem law4 (x : HIn NN.ρ [.v (.sl (.nm 1)), .v (.int .i64)]) (hm : ∀ k, measI k [.v (.sl (.nm 1)), .v (.int .i64)] x ≤ 1048576) (ho : ∀ k, okI k [.v (.sl (.nm 1)), .v (.int .i64)] x) :
    ∃ o, F4.run [.v (.sl (.nm 1)), .v (.int .i64)] [.v .bool] 4000000 x = some ((true, ()), o) := by
  obtain ⟨l, left, u⟩ := x
  have h := sizes_of_meas (l := l) (B := 1048576) (fun k => by
    have : measI k [.v (.sl (.nm 1)), .v (.int .i64)] (l, left, u) = (sumL (mEx k) l + 1) + (1 + 0) := rfl
    have := hm k
    omega)
  have h1 := szL_len l
  exact ⟨(), f4_run (by omega) (fun a ha => by have := szL_mem ha; omega)⟩
end Go.Proofs.Tryz
