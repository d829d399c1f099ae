/- Law 42: LIKE: by prefixes, and by going on from the last percent sign. -/
import Derived.Test.YtlkllggdiakpbaaGreatDoorL42Val
import Derived.Test.YtlkllggdiakpbaaGreatDoorL42Eqs
set_option linter.unusedVariables false
set_option linter.unusedSimpArgs false
namespace Go.Proofs.Tryz
open Go.Eng
inductive M : List Int → List Int → Prop
 | nil : M [] []
 | skip {p s : List Int} : M p s → M (37 :: p) s
 | eat {x : Int} {p s : List Int} : M (37 :: p) s → M (37 :: p) (x :: s)
 | chr {c x : Int} {p s : List Int} : c ≠ 37 → (c = 95 ∨ c = x) → M p s → M (c :: p) (x :: s)
theorem M_nil {s : List Int} : M [] s ↔ s = [] := ⟨fun h => by cases h; rfl, fun h => by subst h; exact .nil⟩
theorem M_chr {c : Int} {p s : List Int} (hc : c ≠ 37) : M (c :: p) s ↔ ∃ x t, s = x :: t ∧ (c = 95 ∨ c = x) ∧ M p t :=
 ⟨fun h => by
  cases h with
  | skip h => exact absurd rfl hc
  | eat h => exact absurd rfl hc
  | chr _ h1 h2 => exact ⟨_, _, rfl, h1, h2⟩, fun ⟨x, t, e, h1, h2⟩ => by subst e; exact .chr hc h1 h2⟩
theorem M_drop {p : List Int} : ∀ (k : Nat) (s : List Int), M (37 :: p) (s.drop k) → M (37 :: p) s
 | 0, s, h => h
 | k + 1, [], h => by simpa using h
 | k + 1, x :: s, h => .eat (M_drop k s (by simpa using h))
theorem M_pct {p : List Int} : ∀ {s : List Int}, M (37 :: p) s ↔ ∃ k, k ≤ s.length ∧ M p (s.drop k)
 | [] => ⟨fun h => by
   cases h with
   | skip h => exact ⟨0, Nat.le_refl _, h⟩, fun ⟨k, hk, h⟩ => .skip (by simpa using h)⟩
 | x :: s => ⟨fun h => by
   cases h with
   | skip h => exact ⟨0, Nat.zero_le _, h⟩
   | eat h =>
    obtain ⟨k, hk, h⟩ := M_pct.1 h
    exact ⟨k + 1, by simpa using hk, by simpa using h⟩
   | chr h => exact absurd rfl h, fun ⟨k, hk, h⟩ => M_drop k _ (.skip h)⟩
theorem M_app : ∀ (q r t : List Int), M (q ++ r) t ↔ ∃ k, k ≤ t.length ∧ M q (t.take k) ∧ M r (t.drop k)
 | [], r, t => ⟨fun h => ⟨0, Nat.zero_le _, M_nil.2 (List.take_zero ..), h⟩, fun ⟨k, hk, h1, h2⟩ => by
   have h3 := congrArg List.length (M_nil.1 h1)
   rw [List.length_take, List.length_nil] at h3
   have : k = 0 := by omega
   subst this
   exact h2⟩
 | c :: q, r, t => by
  by_cases hc : c = 37
  ·subst hc
   rw [List.cons_append, M_pct]
   constructor
   ·rintro ⟨j, hj, h⟩
    obtain ⟨k, hk, h1, h2⟩ := (M_app q r _).1 h
    rw [List.length_drop] at hk
    refine ⟨j + k, by omega, M_pct.2 ⟨j, by rw [List.length_take]; omega, ?_⟩, by rw [List.drop_drop] at h2; exact h2⟩
    rw [List.drop_take, show j + k - j = k from by omega]; exact h1
   ·rintro ⟨m, hm, h1, h2⟩
    obtain ⟨j, hj, h1⟩ := M_pct.1 h1
    rw [List.length_take] at hj
    rw [List.drop_take] at h1
    refine ⟨j, by omega, (M_app q r _).2 ⟨m - j, by rw [List.length_drop]; omega, h1, ?_⟩⟩
    rw [List.drop_drop, show j + (m - j) = m from by omega]; exact h2
  ·rw [List.cons_append, M_chr hc]
   constructor
   ·rintro ⟨x, u, rfl, h1, h2⟩
    obtain ⟨k, hk, h3, h4⟩ := (M_app q r u).1 h2
    exact ⟨k + 1, by simpa using hk, (M_chr hc).2 ⟨x, _, by rw [List.take_succ_cons], h1, h3⟩, by simpa using h4⟩
   ·rintro ⟨k, hk, h1, h2⟩
    obtain ⟨x, u, e, h3, h4⟩ := (M_chr hc).1 h1
    cases t with
    | nil => simp at e
    | cons y t =>
     cases k with
     | zero => simp at e
     | succ k =>
      rw [List.take_succ_cons] at e
      cases e
      exact ⟨_, _, rfl, h3, (M_app q r t).2 ⟨k, by simpa using hk, h4, by simpa using h2⟩⟩
/-! ## By prefixes -/
theorem getD_set {m : List Bool} {k j : Nat} {b : Bool} (hk : k < m.length) : (m.set k b).getD j false = if j = k then b else m.getD j false := by
 rw [List.getD_eq_getElem?_getD, List.getD_eq_getElem?_getD, List.getElem?_set]
 by_cases h : k = j
 ·rw [if_pos h, if_pos hk, if_pos h.symm]; rfl
 ·rw [if_neg h, if_neg (fun e => h e.symm)]
theorem like_pct2 {p s : List Int} {i : Nat} (hs : s.length ≤ 4096) (hi : i < 1000000) {m0 : List Bool} : ∀ (d k : Nat) (m : List Bool) (n : Nat), s.length + 1 - k = d → 1 ≤ k → k ≤ s.length + 1 → m.length = s.length + 1 →
  (∀ j, j < k → (m.getD j false = true ↔ ∃ i, i ≤ j ∧ m0.getD i false = true)) → (∀ j, k ≤ j → m.getD j false = m0.getD j false) →
  ∃ n' m', n ≤ n' ∧ m'.length = s.length + 1 ∧ (∀ j, j ≤ s.length → (m'.getD j false = true ↔ ∃ i, i ≤ j ∧ m0.getD i false = true)) ∧ F110c9 (n + d + 1) p s i k m = F110c4 n' p s ((i + 1 : Nat) : Int) m'
 | 0, k, m, n, hd, hk, hk2, hm, h1, h2 => ⟨n, m, Nat.le_refl _, hm, fun j hj => h1 j (by omega), by rw [F110c9_eq, cdf (by omega), w1 (by omega)]⟩
 | d + 1, k, m, n, hd, hk, hk2, hm, h1, h2 => by
  have e1 : IntKind.i64.wrap ((k : Int) - 1) = ((k - 1 : Nat) : Int) := by rw [wrap64_id (by omega) (by omega)]; omega
  rw [show n + (d + 1) + 1 = (n + d + 1) + 1 from by omega, F110c9_eq, cdt (by omega), e1, gd (show k - 1 < m.length by omega), gd (show k < m.length by omega), w1 (by omega), Int.toNat_natCast, Int.toNat_natCast]
  have hprev := h1 (k - 1) (by omega)
  have hk3 : k + 1 ≤ s.length + 1 := by clear hprev h1 h2; omega
  have hd3 : s.length + 1 - (k + 1) = d := by clear hprev h1 h2; omega
  cases hb : m.getD (k - 1) false with
  | true =>
   obtain ⟨i0, hi0, hi1⟩ := hprev.1 hb
   obtain ⟨n', m', g1, g2, g3, g4⟩ := like_pct2 hs hi (m0 := m0) d (k + 1) (m.set k true) n hd3 (Nat.le_add_left ..) hk3 (by simpa using hm) (fun j hj => by
    rw [getD_set (by omega)]
    by_cases hjk : j = k
    ·rw [if_pos hjk]; exact ⟨fun _ => ⟨i0, by omega, hi1⟩, fun _ => rfl⟩
    ·rw [if_neg hjk]; exact h1 j (by omega)) (fun j hj => by rw [getD_set (by omega), if_neg (by omega)]; exact h2 j (by omega))
   exact ⟨n', m', g1, g2, g3, by rw [ct]; exact g4⟩
  | false =>
   obtain ⟨n', m', g1, g2, g3, g4⟩ := like_pct2 hs hi (m0 := m0) d (k + 1) m n hd3 (Nat.le_add_left ..) hk3 hm (fun j hj => by
    by_cases hjk : j = k
    ·subst hjk
     rw [h2 j (Nat.le_refl _)]
     refine ⟨fun h => ⟨j, Nat.le_refl _, h⟩, fun ⟨i0, hi0, hi1⟩ => ?_⟩
     by_cases he : i0 = j
     ·rw [← he]; exact hi1
     ·have := hprev.2 ⟨i0, by omega, hi1⟩
      rw [hb] at this; cases this
    ·exact h1 j (by omega)) (fun j hj => h2 j (by omega))
   exact ⟨n', m', g1, g2, g3, by rw [cf]; exact g4⟩
theorem like_chr2 {p s : List Int} {i : Nat} {c : Int} (hs : s.length ≤ 4096) (hi : i < 1000000) {m0 : List Bool} : ∀ (k : Nat) (m : List Bool) (n : Nat), k ≤ s.length → m.length = s.length + 1 →
  (∀ j, k < j → j ≤ s.length → m.getD j false = (m0.getD (j - 1) false && (decide (c = 95) || decide (c = s.getD (j - 1) 0)))) → (∀ j, j ≤ k → m.getD j false = m0.getD j false) →
  ∃ n' m', n ≤ n' ∧ m'.length = s.length + 1 ∧ m'.getD 0 false = false ∧ (∀ j, 1 ≤ j → j ≤ s.length → m'.getD j false = (m0.getD (j - 1) false && (decide (c = 95) || decide (c = s.getD (j - 1) 0)))) ∧ F110c14 (n + k + 1) p s i c k m = F110c4 n' p s ((i + 1 : Nat) : Int) m'
 | 0, m, n, hk, hm, h1, h2 => ⟨n, m.set (Int.toNat 0) false, Nat.le_refl _, by simpa using hm, by rw [show Int.toNat 0 = 0 from rfl, getD_set (by omega), if_pos rfl], fun j hj hj2 => by
   rw [show Int.toNat 0 = 0 from rfl, getD_set (by omega), if_neg (by omega)]; exact h1 j (by omega) hj2, by rw [F110c14_eq, cdf (by omega), if_pos (by omega), w1 (by omega)]⟩
 | k + 1, m, n, hk, hm, h1, h2 => by
  have e1 : IntKind.i64.wrap (((k + 1 : Nat) : Int) - 1) = ((k : Nat) : Int) := by rw [wrap64_id (by omega) (by omega)]; omega
  rw [show n + (k + 1) + 1 = (n + k + 1) + 1 from by omega, F110c14_eq, cdt (by omega), e1, gd (show k < m.length by omega), gd (show k < s.length by omega), Int.toNat_natCast, Int.toNat_natCast]
  have hk0 := h2 k (by omega)
  have go : ∀ b, b = (m0.getD k false && (decide (c = 95) || decide (c = s.getD k 0))) → ∃ n' m', n ≤ n' ∧ m'.length = s.length + 1 ∧ m'.getD 0 false = false ∧ (∀ j, 1 ≤ j → j ≤ s.length → m'.getD j false = (m0.getD (j - 1) false && (decide (c = 95) || decide (c = s.getD (j - 1) 0)))) ∧ F110c14 (n + k + 1) p s i c k (m.set (k + 1) b) = F110c4 n' p s ((i + 1 : Nat) : Int) m' := fun b hb =>
   like_chr2 hs hi k (m.set (k + 1) b) n (by omega) (by simpa using hm) (fun j hj hj2 => by
    rw [getD_set (by omega)]
    by_cases hjk : j = k + 1
    ·rw [if_pos hjk, hb, hjk, Nat.add_sub_cancel]
    ·rw [if_neg hjk]; exact h1 j (by omega) hj2) (fun j hj => by rw [getD_set (by omega), if_neg (by omega)]; exact h2 j (by omega))
  cases hb : m.getD k false with
  | true =>
   rw [hk0] at hb
   rw [ct]
   by_cases hc : c = 95
   ·rw [cdt hc, gd (show k + 1 < m.length by omega)]; exact go true (by rw [hb, decide_eq_true hc]; rfl)
   ·rw [cdf hc, gd (show k + 1 < m.length by omega)]; exact go (decide (c = s.getD k 0)) (by rw [hb, decide_eq_false hc]; rfl)
  | false =>
   rw [hk0] at hb
   rw [cf, gd (show k + 1 < m.length by omega)]; exact go false (by rw [hb]; rfl)
theorem take_snoc {l : List Int} {i : Nat} (h : i < l.length) : l.take (i + 1) = l.take i ++ [l.getD i 0] := by
 rw [List.take_succ_eq_append_getElem h, getD_eq h]
def DP (p s : List Int) (i : Nat) (m : List Bool) : Prop := m.length = s.length + 1 ∧ ∀ k, k ≤ s.length → (m.getD k false = true ↔ M (p.take i) (s.take k))
theorem like_iff {p s : List Int} (hp : p.length ≤ 4096) (hs : s.length ≤ 4096) : ∃ b, F110.run [PK.v Ty.str, PK.v Ty.str] [RK.v Ty.bool] 40000000 (p, s, ()) = some ((b, ()), ()) ∧ (b = true ↔ M p s) := by
 rw [F110_run, w1 (by omega), if_pos (by omega), if_pos (by unfold lim; omega), if_pos (by rw [List.length_replicate]; omega), Int.toNat_natCast]
 obtain ⟨r, e, b, rfl, hb⟩ := loop (fun n i m => F110c4 n p s i m) p.length 4200 0 (fun i m => DP p s i m) (fun r => ∃ b, r = ((b, ()), ()) ∧ (b = true ↔ M p s))
  (fun n m _ hm => ⟨_, by rw [F110c4_eq, cdf (by omega), if_pos (by have := hm.1; omega)], _, rfl, by
   have := hm.2 s.length (Nat.le_refl _)
   rw [List.take_length, List.take_length] at this
   rw [Int.toNat_natCast]; exact this⟩)
  (fun n i m hi hm => by
   obtain ⟨hm1, hm2⟩ := hm
   rw [show n + 4200 = (n + 4199) + 1 from rfl, F110c4_eq, cdt (by omega), gd hi, Int.toNat_natCast]
   by_cases hc : p.getD i 0 = 37
   ·obtain ⟨n', m', h1, h2, h3, h4⟩ := like_pct2 (p := p) (i := i) (m0 := m) hs (by omega) (s.length) 1 m (n + 4199 - s.length - 1) (by omega) (by omega) (by omega) hm1 (fun j hj => by
     have : j = 0 := by omega
     subst this
     exact ⟨fun h => ⟨0, Nat.le_refl _, h⟩, fun ⟨i0, a, b⟩ => by
                                   have : i0 = 0 := by omega
                                   subst this; exact b⟩) (fun j hj => rfl)
    rw [show n + 4199 - s.length - 1 + s.length + 1 = n + 4199 from by omega] at h4
    refine .inl ⟨n', m', by omega, by rw [cdt hc]; exact h4, h2, fun k hk => ?_⟩
    rw [h3 k hk, take_snoc hi, hc, M_app]
    constructor
    ·rintro ⟨i0, a, b⟩
     have := (hm2 i0 (by omega)).1 b
     refine ⟨i0, by rw [List.length_take]; omega, by rw [List.take_take, Nat.min_eq_left a]; exact this, M_pct.2 ⟨((s.take k).drop i0).length, Nat.le_refl _, by rw [List.drop_length]; exact .nil⟩⟩
    ·rintro ⟨i0, a, b, _⟩
     rw [List.length_take] at a
     rw [List.take_take, Nat.min_eq_left (by omega)] at b
     exact ⟨i0, by omega, (hm2 i0 (by omega)).2 b⟩
   ·obtain ⟨n', m', h1, h2, h3, h4, h5⟩ := like_chr2 (p := p) (i := i) (c := p.getD i 0) (m0 := m) hs (by omega) s.length m (n + 4199 - s.length - 1) (Nat.le_refl _) hm1 (fun j hj hj2 => by omega) (fun j hj => rfl)
    rw [show n + 4199 - s.length - 1 + s.length + 1 = n + 4199 from by omega] at h5
    refine .inl ⟨n', m', by omega, by rw [cdf hc]; exact h5, h2, fun k hk => ?_⟩
    rw [take_snoc hi, M_app]
    cases k with
    | zero =>
     rw [h3, List.take_zero]
     refine ⟨(fun h => by cases h), fun ⟨j, a, b, d⟩ => ?_⟩
     obtain ⟨x, t, e, _⟩ := (M_chr hc).1 d
     simp at e
    | succ k =>
     rw [h4 (k + 1) (by omega) hk, Nat.add_sub_cancel, Bool.and_eq_true, hm2 k (by omega), Bool.or_eq_true, decide_eq_true_eq, decide_eq_true_eq, take_snoc (show k < s.length by omega)]
     have hlen : (s.take k).length = k := by rw [List.length_take]; omega
     constructor
     ·rintro ⟨a, b⟩
      refine ⟨k, by rw [List.length_append, hlen]; omega, ?_, ?_⟩
      ·rw [List.take_append_of_le_length (by omega), List.take_take, Nat.min_self]; exact a
      ·rw [List.drop_append_of_le_length (by omega), List.drop_eq_nil_of_le (by omega), List.nil_append]
       exact (M_chr hc).2 ⟨_, _, rfl, b, .nil⟩
     ·rintro ⟨j, a, b, d⟩
      obtain ⟨x, t, e, h6, h7⟩ := (M_chr hc).1 d
      have ht := M_nil.1 h7
      subst ht
      have hj : j = k := by
       have := congrArg List.length e
       rw [List.length_drop, List.length_append, hlen] at this
       simp at this
       omega
      subst hj
      rw [List.take_append_of_le_length (by omega), List.take_take, Nat.min_self] at b
      rw [List.drop_append_of_le_length (by omega), List.drop_eq_nil_of_le (by omega), List.nil_append] at e
      cases e
      exact ⟨b, h6⟩) p.length 40000000 0 ((List.replicate (s.length + 1) false).set (Int.toNat 0) true) (by omega) (by omega) (by omega) ⟨by simp, fun k hk => by
    rw [show Int.toNat 0 = 0 from rfl, getD_set (by simp), List.take_zero, M_nil]
    cases k with
    | zero => simp
    | succ k =>
     rw [if_neg (by omega)]
     refine ⟨fun h => ?_, fun h => ?_⟩
     ·rw [List.getD_eq_getElem?_getD, List.getElem?_replicate] at h
      split at h <;> cases h
     ·have := congrArg List.length h
      rw [List.length_take, List.length_nil] at this
      omega⟩
 exact ⟨b, e, hb⟩
theorem likeR_iff {p s : List Int} (hp : p.length ≤ 4096) (hs : s.length ≤ 4096) : likeR p s = true ↔ M p s := by
 obtain ⟨b, h, h2⟩ := like_iff hp hs
 rw [likeR_run hp hs] at h
 cases h
 exact h2
/-! ## From the last percent sign -/
theorem rtrim_some {c : Int} : ∀ (n : Nat) (t : List Int), t.length ≤ 4096 → 2 * t.length + 1 ≤ n → ∃ u, F149c1 n t c = some ((u, ()), ()) ∧ ((∀ x ∈ t, x = c) → u = []) ∧ ((∀ x ∈ u, x = c) → ∀ x ∈ t, x = c) ∧ u.length ≤ 4096
 | 0, t, ht, h => by omega
 | 1, t, ht, h => by
  have : t = [] := List.eq_nil_of_length_eq_zero (by omega)
  subst this
  exact ⟨[], by rw [F149c1_eq]; rfl, fun _ => rfl, fun _ => by simp, by simp⟩
 | n + 2, t, ht, h => by
  rw [F149c1_eq]
  by_cases h0 : t = []
  ·subst h0; exact ⟨[], rfl, fun _ => rfl, fun h => h, by simp⟩
  ·have hl : 0 < t.length := List.length_pos_iff.2 h0
   have e1 : IntKind.i64.wrap ((t.length : Int) - 1) = ((t.length - 1 : Nat) : Int) := by rw [wrap64_id (by omega) (by omega)]; omega
   rw [cdt (by omega), e1, gd (by omega), Int.toNat_natCast, F149c2_eq, e1, if_pos (by omega), if_pos (by omega), Int.toNat_natCast, show Int.toNat 0 = 0 from rfl, List.drop_zero]
   have hsn : t = t.take (t.length - 1) ++ [t.getD (t.length - 1) 0] := by
    have := take_snoc (show t.length - 1 < t.length by omega)
    rw [show t.length - 1 + 1 = t.length from by omega, List.take_length] at this
    exact this
   by_cases hc : t.getD (t.length - 1) 0 = c
   ·rw [cdt hc]
    obtain ⟨u, h1, h2, h3, h4⟩ := rtrim_some n (t.take (t.length - 1)) (by rw [List.length_take]; omega) (by rw [List.length_take]; omega)
    refine ⟨u, h1, fun h => h2 (fun x hx => h x (List.mem_of_mem_take hx)), fun h x hx => ?_, h4⟩
    rw [hsn] at hx
    rcases List.mem_append.1 hx with hx | hx
    ·exact h3 h x hx
    ·rw [List.mem_singleton.1 hx]; exact hc
   ·rw [cdf hc]
    exact ⟨t, rfl, fun h => absurd (h _ (getD_mem (by omega) 0)) hc, fun h => h, ht⟩
theorem ltrim_some {c : Int} : ∀ (n : Nat) (t : List Int), t.length ≤ 4096 → t.length + 1 ≤ n → ∃ u, F148c1 n t c = some ((u, ()), ()) ∧ (u = [] ↔ ∀ x ∈ t, x = c)
 | 0, t, _, h => by omega
 | n + 1, [], _, h => ⟨[], by rw [F148c1_eq]; rfl, by simp⟩
 | n + 1, x :: t, ht, h => by
  have e1 : (((x :: t).length : Nat) : Int).toNat = (x :: t).length := Int.toNat_natCast _
  rw [List.length_cons] at ht h
  rw [F148c1_eq, cdt (by simp <;> omega), if_pos (by simp <;> omega), show Int.toNat 0 = 0 from rfl, List.getD_cons_zero]
  by_cases hc : x = c
  ·rw [cdt hc, if_pos (by simp <;> omega), if_pos (Int.le_refl _), e1, List.take_length, show Int.toNat 1 = 1 from rfl, List.drop_succ_cons, List.drop_zero]
   obtain ⟨u, h1, h2⟩ := ltrim_some n t (by omega) (by omega)
   exact ⟨u, h1, by rw [h2]; simp [hc]⟩
  ·rw [cdf hc]
   exact ⟨x :: t, rfl, by simp [hc]⟩
theorem trim_some {t : List Int} (ht : t.length ≤ 4096) : ∃ u, F130.run [PK.v Ty.str, PK.v Ty.str] [RK.v Ty.str] 4000000 (t, [37], ()) = some ((u, ()), ()) ∧ (u = [] ↔ ∀ x ∈ t, x = 37) := by
 rw [F130_run]
 by_cases h0 : t = []
 ·rw [cdt h0, h0]; exact ⟨[], rfl, by simp⟩
 ·rw [cdf h0, cdf (by decide), show F130c3 4000000 t [37] = _ from F130c3_eq 3999999 t [37]]
  obtain ⟨u, h1, h2, h3, h4⟩ := rtrim_some (c := 37) 4000000 t ht (by omega)
  obtain ⟨v, h5, h6⟩ := ltrim_some (c := 37) 4000000 u h4 (by omega)
  rw [cdt (by decide), if_pos (by decide), cdt (by decide), if_pos (by decide), show ([37] : List Int).getD (Int.toNat 0) 0 = 37 from rfl, F149_run, bnd h1, if_pos (by decide)]
  simp only []
  rw [F148_run, bnd h5]
  exact ⟨v, rfl, h6.trans ⟨h3, fun h x hx => by rw [h2 h] at hx; cases hx⟩⟩
theorem M_allpct : ∀ {p : List Int}, M p [] ↔ ∀ x ∈ p, x = 37
 | [] => ⟨fun _ => by simp, fun _ => .nil⟩
 | c :: p => ⟨fun h => by
   cases h with
   | skip h =>
    intro x hx
    rcases List.mem_cons.1 hx with e | hx
    ·exact e
    ·exact M_allpct.1 h x hx, fun h => by
   have := h c (by simp)
   subst this
   exact .skip (M_allpct.2 (fun x hx => h x (by simp [hx])))⟩
theorem dropI {l : List Int} {i : Nat} (h : i < l.length) : l.drop i = l.getD i 0 :: l.drop (i + 1) := drop_cons h
theorem M_forced {p s : List Int} : ∀ (L q k : Nat), q + L ≤ p.length → (∀ j, q ≤ j → j < q + L → p.getD j 0 ≠ 37) → M (p.drop q) (s.drop k) → M (p.drop (q + L)) (s.drop (k + L))
 | 0, q, k, _, _, h => h
 | L + 1, q, k, hl, hn, h => by
  rw [dropI (show q < p.length by omega)] at h
  obtain ⟨x, t, e, _, h2⟩ := (M_chr (hn q (Nat.le_refl _) (by omega))).1 h
  have hk : k < s.length := by
   rcases Nat.lt_or_ge k s.length with h | h
   ·exact h
   ·rw [List.drop_eq_nil_of_le h] at e; cases e
  rw [dropI hk] at e
  cases e
  have := M_forced L (q + 1) (k + 1) (by omega) (fun j h1 h2 => hn j (by omega) (by omega)) h2
  rw [show q + 1 + L = q + (L + 1) from by omega, show k + 1 + L = k + (L + 1) from by omega] at this
  exact this
theorem end13 {p s : List Int} (hp : p.length ≤ 4096) (n : Nat) {pp i : Nat} (hpp : pp ≤ p.length) : ∃ b, F98c13 (n + 1) p s pp i = some ((b, ()), ()) ∧ (b = true ↔ s.length ≤ i ∧ M (p.drop pp) []) := by
 rw [F98c13_eq]
 by_cases h : i < s.length
 ·rw [cdt (by omega)]
  exact ⟨false, rfl, (fun h => by cases h), fun h' => by omega⟩
 ·obtain ⟨u, h1, h2⟩ := trim_some (t := p.drop pp) (by rw [List.length_drop]; omega)
  rw [cdf (by omega), if_pos (by omega), if_pos (by omega), if_pos (Int.le_refl _), Int.toNat_natCast, Int.toNat_natCast, List.take_length, bnd h1]
  refine ⟨_, rfl, ?_⟩
  rw [decide_eq_true_eq, h2, M_allpct]
  exact ⟨fun h' => ⟨by omega, h'⟩, fun h' => h'.2⟩
def Stuck (p s : List Int) (pp i : Nat) : Prop := pp = p.length ∨ (p.getD pp 0 ≠ 37 ∧ p.getD pp 0 ≠ 95 ∧ p.getD pp 0 ≠ s.getD i 0)
theorem step139 {p s : List Int} (hp : p.length ≤ 4096) (hs : s.length ≤ 4096) (n : Nat) {pp i : Nat} (hpp : pp ≤ p.length) (hi : i < s.length) (st mk : Int) :
  (pp < p.length ∧ p.getD pp 0 = 37 ∧ F98c3 (n + 1) p s pp i st mk = F98c3 n p s ((pp + 1 : Nat) : Int) i pp i) ∨
  (pp < p.length ∧ p.getD pp 0 ≠ 37 ∧ (p.getD pp 0 = 95 ∨ p.getD pp 0 = s.getD i 0) ∧ F98c3 (n + 1) p s pp i st mk = F98c3 n p s ((pp + 1 : Nat) : Int) ((i + 1 : Nat) : Int) st mk) ∨
  (Stuck p s pp i ∧ F98c3 (n + 1) p s pp i st mk = bif decide (st < 0) then F98c13 n p s pp i else F98c11 n p s st mk) := by
 rw [F98c3_eq, cdt (by omega)]
 by_cases hl : pp < p.length
 ·rw [cdt (by omega), gd hl, Int.toNat_natCast]
  by_cases h37 : p.getD pp 0 = 37
  ·exact .inl ⟨hl, h37, by rw [cdt h37, w1 (by omega)]⟩
  ·rw [cdf h37, cdt (by omega), gd hl]
   by_cases h95 : p.getD pp 0 = 95
   ·exact .inr (.inl ⟨hl, h37, .inl h95, by rw [cdt h95, w1 (by omega), w1 (by omega)]⟩)
   ·rw [cdf h95, gd hl, gd hi, Int.toNat_natCast]
    by_cases hx : p.getD pp 0 = s.getD i 0
    ·exact .inr (.inl ⟨hl, h37, .inr hx, by rw [cdt hx, w1 (by omega), w1 (by omega)]⟩)
    ·exact .inr (.inr ⟨.inr ⟨h37, h95, hx⟩, by rw [cdf hx]⟩)
 ·rw [cdf (by omega), cdf (by omega)]
  exact .inr (.inr ⟨.inl (by omega), rfl⟩)
theorem M_stuck {p s : List Int} {pp i : Nat} (hpp : pp ≤ p.length) (hi : i < s.length) (h : Stuck p s pp i) : ¬ M (p.drop pp) (s.drop i) := by
 intro hm
 rcases h with rfl | ⟨h1, h2, h3⟩
 ·rw [List.drop_length, M_nil] at hm
  have := congrArg List.length hm
  rw [List.length_drop, List.length_nil] at this
  omega
 ·rcases Nat.lt_or_ge pp p.length with hl | hl
  ·rw [dropI hl] at hm
   obtain ⟨x, t, e, h4, _⟩ := (M_chr h1).1 hm
   rw [dropI hi] at e
   cases e
   rcases h4 with h4 | h4
   ·exact h2 h4
   ·exact h3 h4
  ·rw [List.drop_eq_nil_of_le hl, M_nil] at hm
   have := congrArg List.length hm
   rw [List.length_drop, List.length_nil] at this
   omega
theorem greedy1 {p s : List Int} (hp : p.length ≤ 4096) (hs : s.length ≤ 4096) {K : Nat} (hK : p.length + s.length + 5 ≤ K) : ∀ (n pp i st mk : Nat), (s.length + 1 - mk) * K + (p.length - pp) + (s.length - i) + 3 ≤ n → pp ≤ p.length → i ≤ s.length → st < pp → mk ≤ i → i - mk = pp - (st + 1) →
  p.getD st 0 = 37 → (∀ j, st < j → j < pp → p.getD j 0 ≠ 37) → (M (p.drop pp) (s.drop i) → M (p.drop (st + 1)) (s.drop mk)) → (M p s ↔ M (p.drop st) (s.drop mk)) →
  ∃ b, F98c3 n p s pp i st mk = some ((b, ()), ()) ∧ (b = true ↔ M p s)
 | 0, pp, i, st, mk, h, _, _, _, _, _, _, _, _, _ => by omega
 | 1, pp, i, st, mk, h, _, _, _, _, _, _, _, _, _ => by omega
 | n + 2, pp, i, st, mk, h, hpp, hi, hst, hmk, hgap, h37, hno, hback, hiff => by
  have hstl : st < p.length := by omega
  have fwd : ∀ k, M (p.drop (st + 1)) (s.drop k) → M (p.drop pp) (s.drop (k + (pp - (st + 1)))) := fun k hk => by
   have := M_forced (pp - (st + 1)) (st + 1) k (by omega) (fun j h1 h2 => hno j (by omega) (by omega)) hk
   rw [show st + 1 + (pp - (st + 1)) = pp from by omega] at this
   exact this
  have hdst : p.drop st = 37 :: p.drop (st + 1) := by rw [dropI hstl, h37]
  rcases Nat.lt_or_ge i s.length with hil | hil
  ·rcases step139 hp hs (n + 1) hpp hil (st : Int) (mk : Int) with ⟨hl, hc, e⟩ | ⟨hl, hc, hx, e⟩ | ⟨hk, e⟩
   ·rw [e]
    refine greedy1 hp hs hK (n + 1) (pp + 1) i pp i ?_ (by omega) hi (by omega) (Nat.le_refl _) (by omega) hc (fun j h1 h2 => by omega) (fun h => h) ?_
    ·have : (s.length + 1 - i) * K ≤ (s.length + 1 - mk) * K := Nat.mul_le_mul_right _ (by omega)
     omega
    ·rw [hiff, hdst]
     have hdp : p.drop pp = 37 :: p.drop (pp + 1) := by rw [dropI hl, hc]
     constructor
     ·intro hm
      obtain ⟨k, hk, hm⟩ := M_pct.1 hm
      rw [List.drop_drop] at hm
      have := fwd _ hm
      rw [hdp] at this ⊢
      have e2 : s.drop (i + k) = (s.drop i).drop k := by rw [List.drop_drop]
      rw [show mk + k + (pp - (st + 1)) = i + k from by omega, e2] at this
      exact M_drop k _ this
     ·intro hm
      exact .skip (hback hm)
   ·rw [e]
    refine greedy1 hp hs hK (n + 1) (pp + 1) (i + 1) st mk (by omega) (by omega) (by omega) (by omega) (by omega) (by omega) h37 (fun j h1 h2 => ?_) (fun hm => hback ?_) hiff
    ·by_cases hj : j = pp
     ·rw [hj]; exact hc
     ·exact hno j h1 (by omega)
    ·rw [dropI hl, dropI hil]
     exact .chr hc hx hm
   ·rw [e, cdf (by omega), F98c11_eq, w1 (by omega), w1 (by omega)]
    refine greedy1 hp hs hK n (st + 1) (mk + 1) st (mk + 1) ?_ (by omega) (by omega) (by omega) (Nat.le_refl _) (by omega) h37 (fun j h1 h2 => by omega) (fun h => h) ?_
    ·have : (s.length + 1 - mk) * K = (s.length + 1 - (mk + 1)) * K + K := by
      rw [show s.length + 1 - mk = (s.length + 1 - (mk + 1)) + 1 from by omega, Nat.add_mul, Nat.one_mul]
     omega
    ·rw [hiff, hdst]
     have hmkl : mk < s.length := by omega
     rw [dropI hmkl]
     constructor
     ·intro hm
      cases hm with
      | skip hm =>
       rw [← dropI hmkl] at hm
       have := fwd _ hm
       rw [show mk + (pp - (st + 1)) = i from by omega] at this
       exact absurd this (M_stuck hpp hil hk)
      | eat hm => exact hm
      | chr h => exact absurd rfl h
     ·exact .eat
  ·have hie : i = s.length := by omega
   obtain ⟨b, h1, h2⟩ := end13 (p := p) (s := s) hp n (pp := pp) (i := i) hpp
   rw [F98c3_eq, cdf (by omega)]
   refine ⟨b, h1, h2.trans ?_⟩
   rw [hiff, hdst]
   constructor
   ·rintro ⟨_, hm⟩
    refine .skip (hback ?_)
    rw [hie, List.drop_length]; exact hm
   ·intro hm
    obtain ⟨k, hk, hm⟩ := M_pct.1 hm
    rw [List.drop_drop] at hm
    have := fwd _ hm
    rw [show s.drop (mk + k + (pp - (st + 1))) = [] from List.drop_eq_nil_of_le (by omega)] at this
    exact ⟨hil, this⟩
theorem greedy0 {p s : List Int} (hp : p.length ≤ 4096) (hs : s.length ≤ 4096) {K : Nat} (hK : p.length + s.length + 5 ≤ K) : ∀ (n pp i : Nat), (s.length + 1) * K + (p.length - pp) + (s.length - i) + 3 ≤ n → pp ≤ p.length → i ≤ s.length → (M p s ↔ M (p.drop pp) (s.drop i)) →
  ∃ b, F98c3 n p s pp i (-1) 0 = some ((b, ()), ()) ∧ (b = true ↔ M p s)
 | 0, pp, i, h, _, _, _ => by omega
 | 1, pp, i, h, _, _, _ => by omega
 | n + 2, pp, i, h, hpp, hi, hiff => by
  rcases Nat.lt_or_ge i s.length with hil | hil
  ·rcases step139 hp hs (n + 1) hpp hil (-1 : Int) (0 : Int) with ⟨hl, hc, e⟩ | ⟨hl, hc, hx, e⟩ | ⟨hk, e⟩
   ·rw [e]
    refine greedy1 hp hs hK (n + 1) (pp + 1) i pp i ?_ (by omega) hi (by omega) (Nat.le_refl _) (by omega) hc (fun j h1 h2 => by omega) (fun h => h) hiff
    have : (s.length + 1 - i) * K ≤ (s.length + 1) * K := Nat.mul_le_mul_right _ (by omega)
    omega
   ·rw [e]
    refine greedy0 hp hs hK (n + 1) (pp + 1) (i + 1) (by omega) (by omega) (by omega) ?_
    rw [hiff, dropI hl, dropI hil]
    constructor
    ·intro hm
     obtain ⟨x, t, e, _, h2⟩ := (M_chr hc).1 hm
     cases e
     exact h2
    ·exact .chr hc hx
   ·obtain ⟨b, h1, h2⟩ := end13 (p := p) (s := s) hp n (pp := pp) (i := i) hpp
    rw [e, cdt (by omega)]
    refine ⟨b, h1, h2.trans ⟨fun h => by omega, fun hm => absurd (hiff.1 hm) (M_stuck hpp hil hk)⟩⟩
  ·obtain ⟨b, h1, h2⟩ := end13 (p := p) (s := s) hp n (pp := pp) (i := i) hpp
   rw [F98c3_eq, cdf (by omega)]
   refine ⟨b, h1, h2.trans ?_⟩
   rw [hiff, List.drop_eq_nil_of_le hil]
   exact ⟨fun h => h.2, fun h => ⟨hil, h⟩⟩
theorem like_run {p s : List Int} (hp : p.length ≤ 4096) (hs : s.length ≤ 4096) : F98.run [PK.v Ty.str, PK.v Ty.str] [RK.v Ty.bool] 40000000 (p, s, ()) = some ((likeR p s, ()), ()) := by
 rw [F98_run]
 obtain ⟨b, h1, h2⟩ := greedy0 hp hs (K := 8200) (by omega) 40000000 0 0 (by omega) (Nat.zero_le _) (Nat.zero_le _) (by rw [List.drop_zero, List.drop_zero])
 have : likeR p s = b := by rw [Bool.eq_iff_iff, h2, likeR_iff hp hs]
 rw [this]
 exact h1
end Go.Proofs.Tryz
