/- Law 10: 'DictionaryRanges' returns true. -/
import Derived.Test.YtkbeapecncddkaaL10Range
import Derived.Test.YtkbeapecncddkaaL10Awake
set_option linter.unusedVariables false
set_option linter.unusedSimpArgs false
namespace Go.Proofs.Try
open Go.Eng

theorem isTrue_run (b : Bool) : F19.run [PK.v (Ty.nm 0)] [RK.v Ty.bool] 4000000 ((⟨1, (bif b then 1 else 0), []⟩ : Val), ()) = some ((b, ()), ()) := by
  rw [show F19.run [PK.v (Ty.nm 0)] [RK.v Ty.bool] 4000000 ((⟨1, (bif b then 1 else 0), []⟩ : Val), ()) = _ from F19_run _ _]
  cases b <;> rfl

theorem f4_end (n : Nat) : F4c13 (n + 1) = some ((true, ()), ()) := by
  rw [F4c13_eq, awake_run]
  rfl

theorem holds_range {op : Int} {s : List Int} {w : List (List Int)} {lo hi i : Nat} (p1 : Parts false s w lo) (p2 : Parts true s w hi) (hi' : i < w.length) (h1 : 1 ≤ op) (h2 : op ≤ 6) (h3 : op ≠ 2) :
    holdsT op (w.getD i []) s = (decide ((pairOf op lo hi w.length).1 ≤ i) && decide ((i : Int) < (pairOf op lo hi w.length).2)) := by
  have a1 : strLt (w.getD i []) s = decide (i < lo) := by
    have e : ptr false s (w.getD i []) = strLt (w.getD i []) s := by simp only [ptr, Bool.false_and, Bool.or_false]
    rcases Nat.lt_or_ge i lo with h | h
    · rw [decide_eq_true h, ← e]; exact p1.2.1 i h
    · rw [decide_eq_false (by omega), ← e]; exact p1.2.2 i h hi'
  have a2 : strLt s (w.getD i []) = !decide (i < hi) := by
    have e : ptr true s (w.getD i []) = !strLt s (w.getD i []) := ptr_true_eq _ _
    rcases Nat.lt_or_ge i hi with h | h
    · have := p2.2.1 i h
      rw [e] at this
      rw [decide_eq_true h]
      simpa using this
    · have := p2.2.2 i h hi'
      rw [e] at this
      rw [decide_eq_false (by omega)]
      simpa using this
  have a3 : decide (w.getD i [] = s) = (!strLt (w.getD i []) s && !strLt s (w.getD i [])) := by
    cases ha : strLt (w.getD i []) s <;> cases hb : strLt s (w.getD i [])
    · rw [decide_eq_true (strLt_anti ha hb)]; rfl
    · rw [decide_eq_false (fun h => by rw [h, strLt_irrefl] at hb; cases hb)]; rfl
    · rw [decide_eq_false (fun h => by rw [h, strLt_irrefl] at ha; cases ha)]; rfl
    · rw [decide_eq_false (fun h => by rw [h, strLt_irrefl] at hb; cases hb)]; rfl
  unfold holdsT
  rw [a3, a1, a2]
  unfold pairOf
  rcases (by omega : op = 1 ∨ op = 3 ∨ op = 4 ∨ op = 5 ∨ op = 6) with rfl | rfl | rfl | rfl | rfl <;>
    simp only [decide_true, cond_true, cond_false, show decide ((3:Int) = 1) = false from rfl, show decide ((4:Int) = 1) = false from rfl, show decide ((4:Int) = 3) = false from rfl, show decide ((5:Int) = 1) = false from rfl, show decide ((5:Int) = 3) = false from rfl, show decide ((5:Int) = 4) = false from rfl, show decide ((6:Int) = 1) = false from rfl, show decide ((6:Int) = 3) = false from rfl, show decide ((6:Int) = 4) = false from rfl, show decide ((6:Int) = 5) = false from rfl, Bool.not_not] <;>
    (rw [Bool.eq_iff_iff]; simp <;> omega)

theorem f4_loop {op : Int} {s : List Int} {w : List (List Int)} {lo hi : Nat} (hlen : w.length < 4611686018427387904) (p1 : Parts false s w lo) (p2 : Parts true s w hi) : ∀ (n i : Nat), 2 * (w.length - i) + 1 < n → i ≤ w.length →
    F4c8 n w op s (pairOf op lo hi w.length).1 (pairOf op lo hi w.length).2 i = some ((true, ()), ())
  | 0, i, h, _ => by omega
  | 1, i, h, _ => by omega
  | n + 2, i, h, hi' => by
    rw [F4c8_eq, f4_end]
    by_cases hlt : i < w.length
    · by_cases h1 : 1 ≤ op
      · by_cases h2 : op ≤ 6
        · by_cases h3 : op = 2
          · simp [hlt, h3]
          · simp only [decide_eq_true (show (i : Int) < (w.length : Int) by omega), decide_eq_true h1, decide_eq_true h2, decide_eq_false h3, cond_true, Bool.not_false]
            rw [F4c10_eq]
            simp only [if_pos (show (0 : Int) ≤ (i : Int) by omega), if_pos (show (i : Int) < (w.length : Int) by omega), Int.toNat_natCast]
            rw [test_run h1 h2 h3, Option.bind_some, isTrue_run, Option.bind_some, holds_range p1 p2 hlt h1 h2 h3, wrap64_id (by omega) (by omega)]
            have ih := f4_loop (op := op) hlen p1 p2 n (i + 1) (by omega) (by omega)
            rw [Int.natCast_add] at ih
            cases hA : decide ((pairOf op lo hi w.length).1 ≤ (i : Int)) with
            | true =>
              simp only [Bool.true_and, cond_true, decide_true, Bool.not_true, cond_false]
              exact ih
            | false =>
              simp only [Bool.false_and, cond_false, decide_true, Bool.not_true]
              exact ih
        · simp [hlt, h1, h2]
      · simp [hlt, h1]
    · simp [hlt]

theorem f4_run (w : List (List Int)) (op : Int) (s : List Int) (hlen : w.length ≤ 1500000) : F4.run [.v (.sl .str), .v (.int .i64), .v .str] [.v .bool] 4000000 (w, op, s, ()) = some ((true, ()), ()) := by
  rw [show F4.run [.v (.sl .str), .v (.int .i64), .v .str] [.v .bool] 4000000 (w, op, s, ()) = _ from F4_run _ _ _ _]
  obtain ⟨b, h1, _⟩ := small_run (w := w) (by omega)
  obtain ⟨c, h2, h3⟩ := rising_run (w := w) (by omega)
  rw [h1, Option.bind_some, awake_run, h2]
  cases b with
  | false => rfl
  | true =>
    cases c with
    | false => rfl
    | true =>
      have hw : Rising w := h3.1 rfl
      obtain ⟨lo, _, p1⟩ := lower_run (e := false) (s := s) hw (by omega)
      obtain ⟨hi, _, p2⟩ := lower_run (e := true) (s := s) hw (by omega)
      simp only [Option.bind_some, Bool.not_true, cond_false]
      cases decide ((4096 : Int) < (s.length : Int)) with
      | true => rfl
      | false =>
        rw [cond_false, show F4c3 4000000 w op s = _ from F4c3_eq 3999999 w op s, range_run hw hlen, Option.bind_some, ref_run hlen, Option.bind_some, cnt_parts p1, cnt_parts p2]
        simp only [decide_true, Bool.not_true, cond_false]
        rw [show F4c7 3999999 w op s (pairOf op lo hi w.length).1 (pairOf op lo hi w.length).2 = _ from F4c7_eq 3999998 _ _ _ _ _]
        exact f4_loop (by omega) p1 p2 3999998 0 (by omega) (by omega)

theorem sumL_ge {α : Type} (f : α → Nat) (hf : ∀ x, 1 ≤ f x) : ∀ l : List α, l.length ≤ sumL f l
  | [] => Nat.zero_le _
  | x :: l => by
    have := sumL_ge f hf l
    have := hf x
    simp only [sumL, List.length_cons]
    omega

theorem law4 (x : HIn NN.ρ [.v (.sl .str), .v (.int .i64), .v .str]) (hm : ∀ k, measI k [.v (.sl .str), .v (.int .i64), .v .str] x ≤ 1048576) (ho : ∀ k, okI k [.v (.sl .str), .v (.int .i64), .v .str] x) :
    ∃ o, F4.run [.v (.sl .str), .v (.int .i64), .v .str] [.v .bool] 4000000 x = some ((true, ()), o) := by
  obtain ⟨w, op, s, u⟩ := x
  have h := hm 0
  have h1 := sumL_ge (measT (measK NN 0) .str) (fun x => Nat.le_add_left _ _) w
  have h2 : measI 0 [.v (.sl .str), .v (.int .i64), .v .str] (w, op, s, u) = (sumL (measT (measK NN 0) .str) w + 1) + (1 + ((s.length + 1) + 0)) := rfl
  exact ⟨(), f4_run w op s (by omega)⟩

end Go.Proofs.Try
