/- Law 10: the bounds of the words that compare, by halving and by counting. -/
import Derived.Test.YtkbeapecncddkaaL10Eq1
import Derived.Test.YtkbeapecncddkaaEngPlain
set_option linter.unusedVariables false
set_option linter.unusedSimpArgs false
namespace Go.Proofs.Try
open Go.Eng

def ptr (e : Bool) (s x : List Int) : Bool := strLt x s || (e && decide (x = s))
/-- k parts the words. -/
def Parts (e : Bool) (s : List Int) (w : List (List Int)) (k : Nat) : Prop :=
  k ≤ w.length ∧ (∀ i, i < k → ptr e s (w.getD i []) = true) ∧ ∀ i, k ≤ i → i < w.length → ptr e s (w.getD i []) = false

theorem Parts.unique {e : Bool} {s : List Int} {w : List (List Int)} {k k' : Nat} (h : Parts e s w k) (h' : Parts e s w k') : k = k' := by
  rcases Nat.lt_trichotomy k k' with hl | hl | hl
  · have h1 := h.2.2 k (Nat.le_refl _) (by have := h'.1; omega)
    rw [h'.2.1 k hl] at h1
    cases h1
  · exact hl
  · have h1 := h'.2.2 k' (Nat.le_refl _) (by have := h.1; omega)
    rw [h.2.1 k' hl] at h1
    cases h1

def Rising (w : List (List Int)) : Prop := ∀ i j, i < j → j < w.length → strLt (w.getD i []) (w.getD j []) = true

theorem mid_eq (f t : Nat) (h1 : f < 4611686018427387904) (h2 : t < 4611686018427387904) : IntKind.i64.wrap ((IntKind.i64.wrap ((f : Int) + (t : Int))).tdiv 2) = (((f + t) / 2 : Nat) : Int) := by
  rw [wrap64_id (z := (f : Int) + (t : Int)) (by omega) (by omega), Int.tdiv_eq_ediv_of_nonneg (by omega), wrap64_id (by omega) (by omega)]
  omega

theorem mono_of_rising {e : Bool} {s : List Int} {w : List (List Int)} (hw : Rising w) {i j : Nat} (hij : i ≤ j) (hj : j < w.length) (h : ptr e s (w.getD j []) = true) : ptr e s (w.getD i []) = true := by
  rcases Nat.lt_or_eq_of_le hij with hl | rfl
  · have h1 := hw i j hl hj
    simp only [ptr, Bool.or_eq_true, Bool.and_eq_true, decide_eq_true_eq] at h ⊢
    rcases h with h | ⟨_, h⟩
    · exact .inl (strLt_trans h1 h)
    · rw [h] at h1
      exact .inl h1
  · exact h

theorem lower_c2 {e : Bool} {s : List Int} {w : List (List Int)} (hw : Rising w) (hlen : w.length < 4611686018427387904) : ∀ (n f t : Nat), t - f < n → f ≤ t → t ≤ w.length →
    (∀ i, i < f → ptr e s (w.getD i []) = true) → (∀ i, t ≤ i → i < w.length → ptr e s (w.getD i []) = false) → ∃ k : Nat, F28c2 n w s e f t = some (((k : Int), ()), ()) ∧ Parts e s w k
  | 0, f, t, h, _, _, _, _ => by omega
  | n + 1, f, t, h, hft, htl, h1, h2 => by
    rw [F28c2_eq]
    by_cases hlt : f < t
    · have hm := mid_eq f t (by omega) (by omega)
      generalize hmd : (f + t) / 2 = m at hm
      have hmf : f ≤ m := by omega
      have hmt : m < t := by omega
      have up : ptr e s (w.getD m []) = true → ∃ k : Nat, F28c2 n w s e (IntKind.i64.wrap ((m : Int) + 1)) t = some (((k : Int), ()), ()) ∧ Parts e s w k := by
        intro hp
        rw [wrap64_id (by omega) (by omega)]
        exact lower_c2 hw hlen n (m + 1) t (by omega) (by omega) htl (fun i hi => mono_of_rising hw (by omega) (by omega) hp) h2
      have down : ptr e s (w.getD m []) = false → ∃ k : Nat, F28c2 n w s e f m = some (((k : Int), ()), ()) ∧ Parts e s w k := by
        intro hp
        refine lower_c2 hw hlen n f m (by omega) (by omega) (by omega) h1 (fun i hi hil => ?_)
        cases hq : ptr e s (w.getD i []) with
        | false => rfl
        | true => rw [mono_of_rising hw hi hil hq] at hp; cases hp
      rw [hm]
      simp only [decide_eq_true (show (f : Int) < t by omega), cond_true, if_pos (show (0 : Int) ≤ (m : Int) by omega), if_pos (show (m : Int) < (w.length : Int) by omega), Int.toNat_natCast]
      cases hs : strLt (w.getD m []) s with
      | true => exact up (by simp only [ptr, hs, Bool.true_or])
      | false =>
        cases he : e with
        | false => subst he; exact down (by simp only [ptr, hs, Bool.false_or, Bool.false_and])
        | true =>
          subst he
          by_cases hq : w.getD m [] = s
          · simp only [cond_false, cond_true, decide_eq_true hq]
            exact up (by simp only [ptr, decide_eq_true hq, Bool.and_self, Bool.or_true])
          · simp only [cond_false, cond_true, decide_eq_false hq]
            exact down (by simp only [ptr, hs, decide_eq_false hq, Bool.and_false, Bool.or_false])
    · rw [decide_eq_false (by omega)]
      have : f = t := by omega
      subst this
      exact ⟨f, rfl, htl, h1, h2⟩

theorem lower_run {e : Bool} {s : List Int} {w : List (List Int)} (hw : Rising w) (hlen : w.length ≤ 3000000) :
    ∃ k : Nat, F28.run [PK.v Ty.str.sl, PK.v Ty.str, PK.v Ty.bool] [RK.v (Ty.int IntKind.i64)] 4000000 (w, s, e, ()) = some (((k : Int), ()), ()) ∧ Parts e s w k := by
  rw [show F28.run [PK.v Ty.str.sl, PK.v Ty.str, PK.v Ty.bool] [RK.v (Ty.int IntKind.i64)] 4000000 (w, s, e, ()) = _ from F28_run _ _ _ _]
  exact lower_c2 hw (by omega) 4000000 0 w.length (by omega) (by omega) (Nat.le_refl _) (fun i hi => by omega) (fun i h1 h2 => by omega)

/-! small, rising. -/
theorem small_c2 {w : List (List Int)} (hlen : w.length < 4611686018427387904) : ∀ (n i : Nat), w.length - i < n → i ≤ w.length →
    ∃ b, F8c2 n w i = some ((b, ()), ()) ∧ (b = true → w.length ≤ 300 ∧ ∀ j, i ≤ j → j < w.length → (w.getD j []).length ≤ 4096)
  | 0, i, h, _ => by omega
  | n + 1, i, h, hi => by
    rw [F8c2_eq]
    by_cases hlt : i < w.length
    · simp only [decide_eq_true (show (i : Int) < (w.length : Int) by omega), cond_true, if_pos (show (0 : Int) ≤ (i : Int) by omega), if_pos (show (i : Int) < (w.length : Int) by omega), Int.toNat_natCast]
      by_cases hb : (w.getD i []).length ≤ 4096
      · rw [decide_eq_false (by omega), cond_false, wrap64_id (by omega) (by omega)]
        obtain ⟨b, h1, h2⟩ := small_c2 hlen n (i + 1) (by omega) (by omega)
        refine ⟨b, h1, fun hb' => ⟨(h2 hb').1, fun j hj hjl => ?_⟩⟩
        rcases Nat.eq_or_lt_of_le hj with rfl | hj
        · exact hb
        · exact (h2 hb').2 j (by omega) hjl
      · rw [decide_eq_true (by omega), cond_true]
        exact ⟨false, rfl, fun h => by cases h⟩
    · rw [decide_eq_false (by omega), cond_false]
      exact ⟨_, rfl, fun hb => ⟨by simp only [decide_eq_true_eq] at hb; omega, fun j hj hjl => by omega⟩⟩

theorem small_run {w : List (List Int)} (hlen : w.length ≤ 3000000) :
    ∃ b, F8.run [PK.v Ty.str.sl] [RK.v Ty.bool] 4000000 (w, ()) = some ((b, ()), ()) ∧ (b = true → w.length ≤ 300 ∧ ∀ j, j < w.length → (w.getD j []).length ≤ 4096) := by
  rw [show F8.run [PK.v Ty.str.sl] [RK.v Ty.bool] 4000000 (w, ()) = _ from F8_run _ _]
  obtain ⟨b, h1, h2⟩ := small_c2 (w := w) (by omega) 4000000 0 (by omega) (by omega)
  exact ⟨b, h1, fun hb => ⟨(h2 hb).1, fun j hj => (h2 hb).2 j (by omega) hj⟩⟩

theorem rising_c2 {w : List (List Int)} (hlen : w.length < 4611686018427387904) : ∀ (n i : Nat), w.length - i < n → 1 ≤ i →
    ∃ b, F16c2 n w i = some ((b, ()), ()) ∧ (b = true ↔ ∀ j, i ≤ j → j < w.length → strLt (w.getD (j - 1) []) (w.getD j []) = true)
  | 0, i, h, _ => by omega
  | n + 1, i, h, hi => by
    rw [F16c2_eq]
    by_cases hlt : i < w.length
    · have hw : IntKind.i64.wrap ((i : Int) - 1) = ((i - 1 : Nat) : Int) := by rw [wrap64_id (by omega) (by omega)]; omega
      rw [hw]
      simp only [decide_eq_true (show (i : Int) < (w.length : Int) by omega), cond_true, if_pos (show (0 : Int) ≤ (i : Int) by omega), if_pos (show (i : Int) < (w.length : Int) by omega), if_pos (show (0 : Int) ≤ ((i - 1 : Nat) : Int) by omega), if_pos (show ((i - 1 : Nat) : Int) < (w.length : Int) by omega), Int.toNat_natCast]
      cases hb : strLt (w.getD (i - 1) []) (w.getD i []) with
      | true =>
        rw [Bool.not_true, cond_false, wrap64_id (by omega) (by omega)]
        obtain ⟨b, h1, h2⟩ := rising_c2 hlen n (i + 1) (by omega) (by omega)
        refine ⟨b, h1, h2.trans ⟨fun h j hj hjl => ?_, fun h j hj hjl => h j (by omega) hjl⟩⟩
        rcases Nat.eq_or_lt_of_le hj with rfl | hj
        · exact hb
        · exact h j (by omega) hjl
      | false =>
        rw [Bool.not_false, cond_true]
        exact ⟨false, rfl, ⟨(fun h => by cases h), (fun h => by rw [h i (Nat.le_refl _) hlt] at hb; cases hb)⟩⟩
    · rw [decide_eq_false (by omega), cond_false]
      exact ⟨true, rfl, ⟨fun _ j hj hjl => by omega, fun _ => rfl⟩⟩

theorem rising_step {w : List (List Int)} (h : ∀ j, 1 ≤ j → j < w.length → strLt (w.getD (j - 1) []) (w.getD j []) = true) : Rising w := by
  intro i j hij hj
  induction j with
  | zero => omega
  | succ j ih =>
    have h1 := h (j + 1) (by omega) hj
    rw [Nat.add_sub_cancel] at h1
    rcases Nat.eq_or_lt_of_le (Nat.le_of_lt_succ hij) with rfl | hl
    · exact h1
    · exact strLt_trans (ih hl (by omega)) h1

theorem rising_run {w : List (List Int)} (hlen : w.length ≤ 3000000) :
    ∃ b, F16.run [PK.v Ty.str.sl] [RK.v Ty.bool] 4000000 (w, ()) = some ((b, ()), ()) ∧ (b = true ↔ Rising w) := by
  rw [show F16.run [PK.v Ty.str.sl] [RK.v Ty.bool] 4000000 (w, ()) = _ from F16_run _ _]
  obtain ⟨b, h1, h2⟩ := rising_c2 (w := w) (by omega) 4000000 1 (by omega) (by omega)
  exact ⟨b, h1, h2.trans ⟨rising_step, fun h j hj hjl => h (j - 1) j (by omega) hjl⟩⟩

/-! The reference's range. -/
def cnt (p : List Int → Bool) (w : List (List Int)) (i : Nat) : Nat := (w.take i).countP p

theorem cnt_succ {p : List Int → Bool} {w : List (List Int)} {i : Nat} (h : i < w.length) : cnt p w (i + 1) = cnt p w i + (bif p (w.getD i []) then 1 else 0) := by
  unfold cnt
  rw [List.take_succ_eq_append_getElem h, List.countP_append, List.getD_eq_getElem?_getD, List.getElem?_eq_getElem h]
  simp only [List.countP_singleton, Option.getD_some]
  cases p w[i] <;> rfl

theorem cnt_parts {e : Bool} {s : List Int} {w : List (List Int)} {k : Nat} (h : Parts e s w k) : cnt (ptr e s) w w.length = k := by
  have key : ∀ i, i ≤ w.length → cnt (ptr e s) w i = min i k := by
    intro i
    induction i with
    | zero => intro _; simp [cnt]
    | succ i ih =>
      intro hi
      rw [cnt_succ (by omega), ih (by omega)]
      rcases Nat.lt_or_ge i k with hk | hk
      · rw [h.2.1 i hk, cond_true]; omega
      · rw [h.2.2 i hk (by omega), cond_false]; omega
  rw [key _ (Nat.le_refl _)]
  have := h.1
  omega

theorem cnt_le {p : List Int → Bool} {w : List (List Int)} {i : Nat} : cnt p w i ≤ i := by
  unfold cnt
  exact Nat.le_trans List.countP_le_length (by simp; omega)

theorem ptr_true_eq (s x : List Int) : ptr true s x = !strLt s x := by
  simp only [ptr, Bool.true_and]
  exact strLt_total x s

def pairOf (op : Int) (lo hi len : Nat) : Int × Int :=
  bif decide (op = 1) then (lo, hi) else bif decide (op = 3) then (0, lo) else bif decide (op = 4) then (0, hi) else bif decide (op = 5) then (hi, len) else bif decide (op = 6) then (lo, len) else (0, 0)

theorem ref_c3 {op : Int} {s : List Int} {w : List (List Int)} (hlen : w.length < 4611686018427387904) : ∀ (n i : Nat), 2 * (w.length - i) < n → i ≤ w.length →
    F18c3 n w op s (cnt (ptr false s) w i : Nat) (cnt (ptr true s) w i : Nat) i = some (((pairOf op (cnt (ptr false s) w w.length) (cnt (ptr true s) w w.length) w.length).1, (pairOf op (cnt (ptr false s) w w.length) (cnt (ptr true s) w w.length) w.length).2, ()), ())
  | 0, i, h, _ => by omega
  | 1, i, h, hi => by
    rw [F18c3_eq, decide_eq_false (by omega), cond_false]
    have : i = w.length := by omega
    subst this
    unfold pairOf
    cases decide (op = 1) <;> cases decide (op = 3) <;> cases decide (op = 4) <;> cases decide (op = 5) <;> cases decide (op = 6) <;> rfl
  | n + 2, i, h, hi => by
    rw [F18c3_eq]
    by_cases hlt : i < w.length
    · have c1 := cnt_le (p := ptr false s) (w := w) (i := i)
      have c2 := cnt_le (p := ptr true s) (w := w) (i := i)
      simp only [decide_eq_true (show (i : Int) < (w.length : Int) by omega), cond_true, if_pos (show (0 : Int) ≤ (i : Int) by omega), if_pos (show (i : Int) < (w.length : Int) by omega), Int.toNat_natCast]
      have e1 : (bif strLt (w.getD i []) s then F18c7 (n + 1) w op s (IntKind.i64.wrap ((cnt (ptr false s) w i : Nat) + 1)) (cnt (ptr true s) w i : Nat) i else F18c7 (n + 1) w op s (cnt (ptr false s) w i : Nat) (cnt (ptr true s) w i : Nat) i)
          = F18c7 (n + 1) w op s (cnt (ptr false s) w (i + 1) : Nat) (cnt (ptr true s) w i : Nat) i := by
        rw [cnt_succ hlt]
        simp only [ptr, Bool.false_and, Bool.or_false]
        cases strLt (w.getD i []) s with
        | true => rw [cond_true, wrap64_id (by omega) (by omega), cond_true]; rfl
        | false => rfl
      rw [e1, F18c7_eq]
      simp only [if_pos (show (0 : Int) ≤ (i : Int) by omega), if_pos (show (i : Int) < (w.length : Int) by omega), Int.toNat_natCast]
      rw [wrap64_id (z := (i : Int) + 1) (by omega) (by omega)]
      have e2 : (bif !strLt s (w.getD i []) then F18c3 n w op s (cnt (ptr false s) w (i + 1) : Nat) (IntKind.i64.wrap ((cnt (ptr true s) w i : Nat) + 1)) ((i : Int) + 1) else F18c3 n w op s (cnt (ptr false s) w (i + 1) : Nat) (cnt (ptr true s) w i : Nat) ((i : Int) + 1))
          = F18c3 n w op s (cnt (ptr false s) w (i + 1) : Nat) (cnt (ptr true s) w (i + 1) : Nat) (i + 1 : Nat) := by
        rw [cnt_succ (p := ptr true s) hlt, ptr_true_eq]
        cases strLt s (w.getD i []) with
        | false => rw [Bool.not_false, cond_true, wrap64_id (by omega) (by omega), cond_true]; rfl
        | true => rfl
      rw [e2]
      exact ref_c3 hlen n (i + 1) (by omega) (by omega)
    · rw [decide_eq_false (by omega), cond_false]
      have : i = w.length := by omega
      subst this
      unfold pairOf
      cases decide (op = 1) <;> cases decide (op = 3) <;> cases decide (op = 4) <;> cases decide (op = 5) <;> cases decide (op = 6) <;> rfl

theorem ref_run {op : Int} {s : List Int} {w : List (List Int)} (hlen : w.length ≤ 1500000) :
    F18.run [PK.v Ty.str.sl, PK.v (Ty.int IntKind.i64), PK.v Ty.str] [RK.v (Ty.int IntKind.i64), RK.v (Ty.int IntKind.i64)] 4000000 (w, op, s, ()) = some (((pairOf op (cnt (ptr false s) w w.length) (cnt (ptr true s) w w.length) w.length).1, (pairOf op (cnt (ptr false s) w w.length) (cnt (ptr true s) w w.length) w.length).2, ()), ()) := by
  rw [show F18.run [PK.v Ty.str.sl, PK.v (Ty.int IntKind.i64), PK.v Ty.str] [RK.v (Ty.int IntKind.i64), RK.v (Ty.int IntKind.i64)] 4000000 (w, op, s, ()) = _ from F18_run _ _ _ _]
  exact ref_c3 (by omega) 4000000 0 (by omega) (by omega)

theorem range_run {op : Int} {s : List Int} {w : List (List Int)} (hw : Rising w) (hlen : w.length ≤ 1500000) :
    F17.run [PK.v Ty.str.sl, PK.v (Ty.int IntKind.i64), PK.v Ty.str] [RK.v (Ty.int IntKind.i64), RK.v (Ty.int IntKind.i64)] 4000000 (w, op, s, ()) = some (((pairOf op (cnt (ptr false s) w w.length) (cnt (ptr true s) w w.length) w.length).1, (pairOf op (cnt (ptr false s) w w.length) (cnt (ptr true s) w w.length) w.length).2, ()), ()) := by
  rw [show F17.run [PK.v Ty.str.sl, PK.v (Ty.int IntKind.i64), PK.v Ty.str] [RK.v (Ty.int IntKind.i64), RK.v (Ty.int IntKind.i64)] 4000000 (w, op, s, ()) = _ from F17_run _ _ _ _]
  obtain ⟨k1, h1, p1⟩ := lower_run (e := false) (s := s) hw (by omega)
  obtain ⟨k2, h2, p2⟩ := lower_run (e := true) (s := s) hw (by omega)
  rw [h1, Option.bind_some, h2, Option.bind_some, cnt_parts p1, cnt_parts p2]
  unfold pairOf
  cases decide (op = 1) <;> cases decide (op = 3) <;> cases decide (op = 4) <;> cases decide (op = 5) <;> cases decide (op = 6) <;> rfl

/-! The comparison of two texts. -/
def holdsT (op : Int) (a b : List Int) : Bool :=
  bif decide (op = 1) then decide (a = b) else bif decide (op = 3) then strLt a b else bif decide (op = 4) then !strLt b a else bif decide (op = 5) then strLt b a else !strLt a b

theorem test_run {op : Int} {a b : List Int} (h1 : 1 ≤ op) (h2 : op ≤ 6) (h3 : op ≠ 2) :
    F20.run [PK.v (Ty.int IntKind.i64), PK.v (Ty.nm 0), PK.v (Ty.nm 0)] [RK.v (Ty.nm 0)] 4000000 (op, (⟨3, 0, a⟩ : Val), (⟨3, 0, b⟩ : Val), ()) = some ((⟨1, (bif holdsT op a b then 1 else 0), []⟩, ()), ()) := by
  rw [show F20.run [PK.v (Ty.int IntKind.i64), PK.v (Ty.nm 0), PK.v (Ty.nm 0)] [RK.v (Ty.nm 0)] 4000000 (op, (⟨3, 0, a⟩ : Val), (⟨3, 0, b⟩ : Val), ()) = _ from F20_run _ _ _ _]
  have hcmp : F31.run [PK.v (Ty.nm 0), PK.v (Ty.nm 0)] [RK.v (Ty.int IntKind.i64)] 4000000 ((⟨3, 0, a⟩ : Val), (⟨3, 0, b⟩ : Val), ()) = some (((bif strLt a b then (-1 : Int) else bif strLt b a then 1 else 0), ()), ()) := by
    rw [show F31.run [PK.v (Ty.nm 0), PK.v (Ty.nm 0)] [RK.v (Ty.int IntKind.i64)] 4000000 ((⟨3, 0, a⟩ : Val), (⟨3, 0, b⟩ : Val), ()) = _ from F31_run _ _ _]
    have : F51.run [PK.v Ty.bool, PK.v Ty.bool] [RK.v (Ty.int IntKind.i64)] 4000000 (strLt a b, strLt b a, ()) = some (((bif strLt a b then (-1 : Int) else bif strLt b a then 1 else 0), ()), ()) := by
      rw [show F51.run [PK.v Ty.bool, PK.v Ty.bool] [RK.v (Ty.int IntKind.i64)] 4000000 (strLt a b, strLt b a, ()) = _ from F51_run _ _ _]
      cases strLt a b <;> cases strLt b a <;> rfl
    simp [this]
  have hbool : ∀ x : Bool, F29.run [PK.v Ty.bool] [RK.v (Ty.nm 0)] 4000000 (x, ()) = some (((⟨1, (bif x then 1 else 0), []⟩ : Val), ()), ()) := by
    intro x
    rw [show F29.run [PK.v Ty.bool] [RK.v (Ty.nm 0)] 4000000 (x, ()) = _ from F29_run _ _]
    cases x <;> rfl
  have hholds : F30.run [PK.v (Ty.int IntKind.i64), PK.v (Ty.int IntKind.i64)] [RK.v Ty.bool] 4000000 (op, (bif strLt a b then (-1 : Int) else bif strLt b a then 1 else 0), ()) = some ((holdsT op a b, ()), ()) := by
    rw [show F30.run [PK.v (Ty.int IntKind.i64), PK.v (Ty.int IntKind.i64)] [RK.v Ty.bool] 4000000 (op, (bif strLt a b then (-1 : Int) else bif strLt b a then 1 else 0), ()) = _ from F30_run _ _ _]
    have heq : decide (a = b) = (!strLt a b && !strLt b a) := by
      cases ha : strLt a b <;> cases hb : strLt b a
      · rw [decide_eq_true (strLt_anti ha hb)]; rfl
      · rw [decide_eq_false (fun h => by rw [h, strLt_irrefl] at hb; cases hb)]; rfl
      · rw [decide_eq_false (fun h => by rw [h, strLt_irrefl] at ha; cases ha)]; rfl
      · rw [decide_eq_false (fun h => by rw [h, strLt_irrefl] at hb; cases hb)]; rfl
    unfold holdsT
    rw [heq]
    have has : strLt a b = true → strLt b a = false := strLt_asymm
    rcases (by omega : op = 1 ∨ op = 3 ∨ op = 4 ∨ op = 5 ∨ op = 6) with rfl | rfl | rfl | rfl | rfl <;>
      (cases ha : strLt a b <;> cases hb : strLt b a <;> first | rfl | (rw [has ha] at hb; cases hb))
  have d1 : decide ((3 : Int) = 0) = false := rfl
  have d2 : decide ((3 : Int) = 3) = true := rfl
  simp only [d1, d2, cond_false, Bool.not_true, decide_eq_false (show ¬ op < 1 by omega), decide_eq_false (show ¬ 6 < op by omega)]
  rw [F20c3_eq, hcmp, Option.bind_some, hholds, Option.bind_some, hbool]
  rfl

end Go.Proofs.Try
