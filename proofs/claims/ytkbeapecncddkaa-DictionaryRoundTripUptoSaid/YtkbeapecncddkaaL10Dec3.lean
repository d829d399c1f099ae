/- Law 10: runs read and expanded; words read. -/
import Derived.Test.YtkbeapecncddkaaL10Dec2
set_option linter.unusedVariables false
set_option linter.unusedSimpArgs false
namespace Go.Proofs.Try
open Go.Eng

def cntSum : List Run → Int
  | [] => 0
  | r :: t => r.count + cntSum t
def okC (l : List Run) : Prop := ∀ r ∈ l, 1 ≤ r.count ∧ r.count ≤ 65536
theorem okC_get {l : List Run} (h : okC l) {j : Nat} (hj : j < l.length) : 1 ≤ (l.getD j rz).count ∧ (l.getD j rz).count ≤ 65536 := by
  rw [List.getD_eq_getElem?_getD, List.getElem?_eq_getElem hj]
  exact h _ (List.getElem_mem hj)
theorem drop_run {l : List Run} {i : Nat} (h : i < l.length) : l.drop i = l.getD i rz :: l.drop (i + 1) := by
  rw [List.drop_eq_getElem_cons h, List.getD_eq_getElem?_getD, List.getElem?_eq_getElem h]; rfl

def Dist (l : List Run) : Prop := ∀ j, 0 < j → j < l.length → (l.getD j rz).value ≠ (l.getD (j - 1) rz).value
theorem cntSum_len : ∀ {l : List Run}, okC l → (l.length : Int) ≤ cntSum l
  | [], _ => by simp [cntSum]
  | r :: t, h => by
    have h1 := h r List.mem_cons_self
    have h2 := cntSum_len (l := t) (fun x hx => h x (List.mem_cons_of_mem _ hx))
    rw [cntSum, List.length_cons]
    omega
theorem okC_drop {l : List Run} (h : okC l) (i : Nat) : okC (l.drop i) := fun r hr => h r (List.mem_of_mem_drop hr)
/-! Valid runs. -/
set_option maxHeartbeats 1000000 in
theorem valid_both {l : List Run} (hc : okC l) (hl : l.length ≤ 100000) : ∀ (d i t n m : Nat), l.length - i = d → i ≤ l.length → t ≤ 65536 → 2 * d < n → 2 * d < m →
    ∃ v : Bool, F82c3 n l (t : Int) l (l.length : Int) i = some ((v, ()), ()) ∧ F86c3 m l ((65536 - t : Nat) : Int) i = some ((v, ()), ()) ∧ (v = true → (t : Int) + cntSum (l.drop i) ≤ 65536) ∧ (Dist l → (t : Int) + cntSum (l.drop i) ≤ 65536 → v = true)
  | 0, i, t, n, m, hd, hi, ht, hn, hm => by
    obtain ⟨n, rfl⟩ : ∃ n', n = n' + 1 := ⟨n - 1, by omega⟩
    obtain ⟨m, rfl⟩ : ∃ m', m = m' + 1 := ⟨m - 1, by omega⟩
    refine ⟨true, ?_, ?_, fun _ => by rw [List.drop_eq_nil_of_le (by omega), cntSum]; omega, fun _ _ => rfl⟩
    · rw [F82c3_eq, decide_eq_false (by omega), cond_false]
    · rw [F86c3_eq, decide_eq_false (by omega), cond_false]
  | d + 1, i, t, n, m, hd, hi, ht, hn, hm => by
    obtain ⟨n, rfl⟩ : ∃ n', n = n' + 2 := ⟨n - 2, by omega⟩
    obtain ⟨m, rfl⟩ : ∃ m', m = m' + 2 := ⟨m - 2, by omega⟩
    have hlt : i < l.length := by omega
    obtain ⟨c1, c2⟩ := okC_get hc hlt
    have hd1 := drop_run hlt
    have hg : l.getD ((i : Int)).toNat ({ value := 0, count := 0 } : Run) = l.getD i rz := by rw [Int.toNat_natCast]; rfl
    have hwt : IntKind.i64.wrap ((65536 : Int) - (t : Int)) = ((65536 - t : Nat) : Int) := by rw [wrap64_id (by omega) (by omega)]; omega
    rw [hd1, cntSum, F82c3_eq, F86c3_eq, hwt]
    have go : ∃ v : Bool, (¬ ((65536 - t : Nat) : Int) < (l.getD i rz).count → F82c7 (n + 1) l (t : Int) l (l.length : Int) i (l.getD i rz) = some ((v, ()), ()) ∧ F86c7 (m + 1) l ((65536 - t : Nat) : Int) i = some ((v, ()), ()) ∧ (v = true → (t : Int) + ((l.getD i rz).count + cntSum (l.drop (i + 1))) ≤ 65536) ∧ (Dist l → (t : Int) + ((l.getD i rz).count + cntSum (l.drop (i + 1))) ≤ 65536 → v = true)) := by
      by_cases hov : ((65536 - t : Nat) : Int) < (l.getD i rz).count
      · exact ⟨true, fun h => absurd hov h⟩
      obtain ⟨v, v1, v2, v3, v4⟩ := valid_both hc hl d (i + 1) (t + (l.getD i rz).count.toNat) n m (by omega) (by omega) (by omega) (by omega) (by omega)
      refine ⟨v, fun _ => ⟨?_, ?_, fun h => by have := v3 h; omega, fun h h' => v4 h (by omega)⟩⟩
      · rw [F82c7_eq, wrap64_id (z := (t : Int) + (l.getD i rz).count) (by omega) (by omega), wrap64_id (by omega) (by omega), show (t : Int) + (l.getD i rz).count = ((t + (l.getD i rz).count.toNat : Nat) : Int) by omega]
        exact v1
      · rw [F86c7_eq, if_pos (by omega), if_pos (by omega), hg, wrap64_id (z := ((65536 - t : Nat) : Int) - (l.getD i rz).count) (by omega) (by omega), wrap64_id (by omega) (by omega), show ((65536 - t : Nat) : Int) - (l.getD i rz).count = ((65536 - (t + (l.getD i rz).count.toNat) : Nat) : Int) by omega]
        exact v2
    obtain ⟨v, go⟩ := go
    have hle := cntSum_len (okC_drop hc (i + 1))
    have hdi : Dist l → 0 < i → (l.getD i rz).value ≠ (l.getD (i - 1) rz).value := fun h h0 => h i h0 hlt
    generalize l.getD ((i : Int)).toNat ({ value := 0, count := 0 } : Run) = r at hg ⊢
    rw [← hg] at go c1 c2 hdi ⊢
    clear hg
    by_cases h0 : i = 0
    · simp only [decide_eq_true (show (i : Int) < (l.length : Int) by omega), cond_true, if_pos (show (0 : Int) ≤ (i : Int) by omega), if_pos (show (i : Int) < (l.length : Int) by omega), decide_eq_false (show ¬ r.count < 1 by omega), cond_false, decide_eq_false (show ¬ (0 : Int) < (i : Int) by omega)]
      by_cases hov : ((65536 - t : Nat) : Int) < r.count
      · rw [decide_eq_true hov]
        exact ⟨false, rfl, rfl, (fun h => by cases h), (fun _ h => by omega)⟩
      · rw [decide_eq_false hov, cond_false, cond_false]
        exact ⟨v, go hov⟩
    · have hwi : IntKind.i64.wrap ((i : Int) - 1) = ((i - 1 : Nat) : Int) := by rw [wrap64_id (by omega) (by omega)]; omega
      rw [hwi]
      have hg2 : l.getD (((i - 1 : Nat) : Int)).toNat ({ value := 0, count := 0 } : Run) = l.getD (i - 1) rz := by rw [Int.toNat_natCast]; rfl
      generalize l.getD (((i - 1 : Nat) : Int)).toNat ({ value := 0, count := 0 } : Run) = r2 at hg2 ⊢
      rw [← hg2] at hdi
      simp only [decide_eq_true (show (i : Int) < (l.length : Int) by omega), cond_true, if_pos (show (0 : Int) ≤ (i : Int) by omega), if_pos (show (i : Int) < (l.length : Int) by omega), decide_eq_false (show ¬ r.count < 1 by omega), cond_false, decide_eq_true (show (0 : Int) < (i : Int) by omega), if_pos (show (0 : Int) ≤ ((i - 1 : Nat) : Int) by omega), if_pos (show ((i - 1 : Nat) : Int) < (l.length : Int) by omega)]
      by_cases hov : ((65536 - t : Nat) : Int) < r.count
      · rw [decide_eq_true hov]
        exact ⟨false, rfl, rfl, (fun h => by cases h), (fun _ h => by omega)⟩
      · rw [decide_eq_false hov, cond_false, cond_false]
        by_cases hv : r.value = r2.value
        · rw [decide_eq_true hv]
          exact ⟨false, rfl, rfl, (fun h => by cases h), (fun h _ => absurd hv (hdi h (by omega)))⟩
        · rw [decide_eq_false hv, cond_false, cond_false]
          exact ⟨v, go hov⟩

/-! Runs expanded. -/
def expT : List Run → List Int
  | [] => []
  | r :: t => List.replicate r.count.toNat r.value ++ expT t
theorem expT_len : ∀ {l : List Run}, okC l → ((expT l).length : Int) = cntSum l
  | [], _ => rfl
  | r :: t, h => by
    have h1 := h r List.mem_cons_self
    have h2 := expT_len (l := t) (fun x hx => h x (List.mem_cons_of_mem _ hx))
    rw [expT, List.length_append, List.length_replicate, cntSum]
    omega
theorem exp_c8 {l : List Run} {i : Nat} {r : Run} (h1 : 1 ≤ r.count) (h2 : r.count ≤ 65536) (hi : i < l.length) (hl : l.length ≤ 100000) : ∀ (d k n : Nat) (acc : List Int), r.count.toNat - k = d → k ≤ r.count.toNat → d < n → acc.length + d ≤ 1000000 →
    ∃ m, n = m + d + 1 ∧ F64c8 n l (l.length : Int) i r.count k acc r = F64c5 m l (l.length : Int) ((i + 1 : Nat) : Int) (acc ++ List.replicate d r.value)
  | 0, k, n, acc, hd, hk, hn, ha => by
    obtain ⟨n, rfl⟩ : ∃ n', n = n' + 1 := ⟨n - 1, by omega⟩
    refine ⟨n, rfl, ?_⟩
    rw [F64c8_eq, decide_eq_false (by omega), cond_false, wrap64_id (by omega) (by omega), List.replicate_zero, List.append_nil]
    rfl
  | d + 1, k, n, acc, hd, hk, hn, ha => by
    obtain ⟨n, rfl⟩ : ∃ n', n = n' + 1 := ⟨n - 1, by omega⟩
    obtain ⟨m, m1, m2⟩ := exp_c8 h1 h2 hi hl d (k + 1) n (acc ++ [r.value]) (by omega) (by omega) (by omega) (by rw [List.length_append, List.length_singleton]; omega)
    refine ⟨m, by omega, ?_⟩
    rw [F64c8_eq, decide_eq_true (by omega), cond_true, if_pos (by simp only [lim]; omega), wrap64_id (by omega) (by omega), show ((k : Int) + 1) = ((k + 1 : Nat) : Int) by omega, m2, List.append_assoc]
    rfl
theorem rexp_c8 {l : List Run} {i : Nat} (hc : okC l) (hi : i < l.length) (hl : l.length ≤ 100000) : ∀ (d k n : Nat) (acc : List Int), (l.getD i rz).count.toNat - k = d → k ≤ (l.getD i rz).count.toNat → d < n → acc.length + d ≤ 1000000 →
    ∃ m, n = m + d + 1 ∧ F68c8 n l i k acc = F68c5 m l ((i + 1 : Nat) : Int) (acc ++ List.replicate d (l.getD i rz).value)
  | 0, k, n, acc, hd, hk, hn, ha => by
    obtain ⟨n, rfl⟩ : ∃ n', n = n' + 1 := ⟨n - 1, by omega⟩
    obtain ⟨c1, c2⟩ := okC_get hc hi
    have hg : l.getD ((i : Int)).toNat ({ value := 0, count := 0 } : Run) = l.getD i rz := by rw [Int.toNat_natCast]; rfl
    refine ⟨n, rfl, ?_⟩
    rw [F68c8_eq, if_pos (by omega), if_pos (by omega), hg, decide_eq_false (by omega), cond_false, wrap64_id (by omega) (by omega), List.replicate_zero, List.append_nil]
    rfl
  | d + 1, k, n, acc, hd, hk, hn, ha => by
    obtain ⟨n, rfl⟩ : ∃ n', n = n' + 1 := ⟨n - 1, by omega⟩
    obtain ⟨c1, c2⟩ := okC_get hc hi
    have hg : l.getD ((i : Int)).toNat ({ value := 0, count := 0 } : Run) = l.getD i rz := by rw [Int.toNat_natCast]; rfl
    obtain ⟨m, m1, m2⟩ := rexp_c8 hc hi hl d (k + 1) n (acc ++ [(l.getD i rz).value]) (by omega) (by omega) (by omega) (by rw [List.length_append, List.length_singleton]; omega)
    refine ⟨m, by omega, ?_⟩
    rw [F68c8_eq, if_pos (by omega), if_pos (by omega), hg, decide_eq_true (by omega), cond_true, if_pos (by omega), if_pos (by omega), if_pos (by simp only [lim]; omega), wrap64_id (by omega) (by omega), show ((k : Int) + 1) = ((k + 1 : Nat) : Int) by omega, m2, List.append_assoc]
    rfl
theorem exp_c5 {l : List Run} (hc : okC l) (hl : l.length ≤ 100000) (hs : cntSum l ≤ 65536) : ∀ (d i n m : Nat) (acc : List Int), l.length - i = d → i ≤ l.length → (cntSum (l.drop i)).toNat + 2 * d < n → (cntSum (l.drop i)).toNat + 2 * d < m → (acc.length : Int) + cntSum (l.drop i) ≤ 100000 →
    F64c5 n l (l.length : Int) i acc = some ((acc ++ expT (l.drop i), ((0 : Int), ())), ()) ∧ F68c5 m l i acc = some ((acc ++ expT (l.drop i), ((0 : Int), ())), ())
  | 0, i, n, m, acc, hd, hi, hn, hm, ha => by
    obtain ⟨n, rfl⟩ : ∃ n', n = n' + 1 := ⟨n - 1, by omega⟩
    obtain ⟨m, rfl⟩ : ∃ m', m = m' + 1 := ⟨m - 1, by omega⟩
    rw [F64c5_eq, decide_eq_false (by omega), cond_false, F68c5_eq, decide_eq_false (by omega), cond_false, List.drop_eq_nil_of_le (by omega), expT, List.append_nil]
    exact ⟨rfl, rfl⟩
  | d + 1, i, n, m, acc, hd, hi, hn, hm, ha => by
    obtain ⟨n, rfl⟩ : ∃ n', n = n' + 1 := ⟨n - 1, by omega⟩
    obtain ⟨m, rfl⟩ : ∃ m', m = m' + 1 := ⟨m - 1, by omega⟩
    have hlt : i < l.length := by omega
    obtain ⟨c1, c2⟩ := okC_get hc hlt
    have hd1 := drop_run hlt
    have hle := cntSum_len (okC_drop hc (i + 1))
    rw [hd1, cntSum] at hn hm ha
    have hg : l.getD ((i : Int)).toNat ({ value := 0, count := 0 } : Run) = l.getD i rz := by rw [Int.toNat_natCast]; rfl
    obtain ⟨p, p1, p2⟩ := exp_c8 c1 c2 hlt hl (l.getD i rz).count.toNat 0 n acc (by omega) (by omega) (by omega) (by omega)
    obtain ⟨q, q1, q2⟩ := rexp_c8 hc hlt hl (l.getD i rz).count.toNat 0 m acc (by omega) (by omega) (by omega) (by omega)
    have ih := exp_c5 hc hl hs d (i + 1) p q (acc ++ List.replicate (l.getD i rz).count.toNat (l.getD i rz).value) (by omega) (by omega) (by omega) (by omega) (by rw [List.length_append, List.length_replicate]; omega)
    rw [F64c5_eq, decide_eq_true (by omega), cond_true, if_pos (by omega), if_pos (by omega), hg, F68c5_eq, decide_eq_true (by omega), cond_true, hd1, expT, ← List.append_assoc]
    exact ⟨p2.trans ih.1, q2.trans ih.2⟩

abbrev exA : List PK := [PK.v (Ty.nm 1).sl]
abbrev exR : List RK := [RK.own 2 (Ty.int IntKind.i64), RK.v (Ty.int IntKind.i64)]
theorem expand_run {l : List Run} (hc : okC l) (hl : l.length ≤ 100000) :
    ∃ (x : List Int) (e : Nat), F64.run exA exR 4000000 (l, ()) = some ((x, ((e : Int), ())), ()) ∧ F68.run exA exR 4000000 (l, ()) = some ((x, ((e : Int), ())), ()) ∧ (e = 0 → x = expT l ∧ cntSum l ≤ 65536) ∧ (Dist l → cntSum l ≤ 65536 → e = 0) := by
  rw [show F64.run exA exR 4000000 (l, ()) = _ from F64_run _ _, show F68.run exA exR 4000000 (l, ()) = _ from F68_run _ _]
  rw [show F64c1 4000000 l = _ from F64c1_eq 3999999 _, show F68c1 4000000 l = _ from F68c1_eq 3999999 _]
  obtain ⟨v, v1, v2, v3, v4⟩ := valid_both hc hl l.length 0 0 4000000 4000000 (by omega) (by omega) (by omega) (by omega) (by omega)
  have r1 : F82.run [PK.v (Ty.nm 1).sl] [RK.v Ty.bool] 4000000 (l, ()) = some ((v, ()), ()) := (F82_run _ _).trans v1
  have r2 : F86.run [PK.v (Ty.nm 1).sl] [RK.v Ty.bool] 4000000 (l, ()) = some ((v, ()), ()) := (F86_run _ _).trans v2
  rw [r1, r2]
  cases v with
  | false => exact ⟨[], 4, rfl, rfl, (fun h => by cases h), (fun h h' => by have := v4 h (by rw [List.drop_zero]; omega); cases this)⟩
  | true =>
    have hs := v3 rfl
    rw [List.drop_zero] at hs
    have hle := cntSum_len hc
    obtain ⟨e1, e2⟩ := exp_c5 hc hl (by omega) l.length 0 3999999 3999999 [] (by omega) (by omega) (by rw [List.drop_zero]; omega) (by rw [List.drop_zero]; omega) (by rw [List.drop_zero]; simp; omega)
    rw [List.drop_zero, List.nil_append] at e1 e2
    exact ⟨expT l, 0, e1, e2, fun _ => ⟨rfl, by omega⟩, fun _ _ => rfl⟩

end Go.Proofs.Try
