/- Law 10: 'DictionaryDecodes' returns true. -/
import Derived.Test.YtkbeapecncddkaaL10Dec3
import Derived.Test.YtkbeapecncddkaaL10Main5
set_option linter.unusedVariables false
set_option linter.unusedSimpArgs false
namespace Go.Proofs.Try
open Go.Eng

abbrev rdR : List RK := [RK.own 82 (Ty.nm 1), RK.v (Ty.int IntKind.i64), RK.v (Ty.int IntKind.i64)]
/-- What a decoder gives: a list, the place behind, an error's number. -/
def Out3 {α : Type} (good : List α → Nat → Prop) (l : List α) (q e : Nat) : Prop := (e = 0 → good l q) ∧ (e ≠ 0 → l = [] ∧ q = 0)
def goodR (b : List Int) (lo : Int) (l : List Run) (q : Nat) : Prop := okC l ∧ l.length ≤ 65536 ∧ q ≤ b.length ∧ Dist l ∧ cntSum l ≤ 65536 ∧ lo ≤ q

section steps
variable {b : List Int} {x q e y p f at_ total cnt i k : Nat} {last : Int} {out : List Run}
theorem ne0 {e : Nat} (he : e ≠ 0) : (!decide ((e : Int) = 0)) = true := by rw [decide_eq_false (by omega)]; rfl
theorem eq0 : (!decide (((0 : Nat) : Int) = 0)) = false := rfl
theorem c24_err (he : e ≠ 0) : F63c24 (k + 1) (q : Int) (e : Int) out = some (([], ((0 : Int), ((e : Int), ()))), ()) := by
  rw [F63c24_eq, ne0 he, cond_true]
  rfl
theorem p9_err (hi : i < cnt) (r1 : F61.run decA decR 4000000 (b, (at_ : Int), ()) = some (((x : Int), ((q : Int), ((e : Int), ()))), ())) (he : e ≠ 0) :
    F63c9 (k + 2) b at_ 0 last total cnt i out = some (([], ((0 : Int), ((e : Int), ()))), ()) := by
  rw [F63c9_eq, decide_eq_true (by omega), cond_true, r1, Option.bind_some, ne0 he, cond_true]
  exact c24_err he
theorem p9_zero (hi : i < cnt) (r1 : F61.run decA decR 4000000 (b, (at_ : Int), ()) = some (((x : Int), ((q : Int), (((0 : Nat) : Int), ()))), ())) (hx : x = 0) (hi0 : 0 < i) :
    F63c9 (k + 2) b at_ 0 last total cnt i out = some (([], ((0 : Int), (((4 : Nat) : Int), ()))), ()) := by
  rw [F63c9_eq, decide_eq_true (by omega), cond_true, r1, Option.bind_some, eq0, cond_false]
  dsimp only
  rw [decide_eq_true (show (x : Int) = 0 by omega), cond_true, decide_eq_true (show (0 : Int) < (i : Int) by omega), cond_true]
  exact c24_err (e := 4) (by decide)
theorem p9_go (hi : i < cnt) (r1 : F61.run decA decR 4000000 (b, (at_ : Int), ()) = some (((x : Int), ((q : Int), (((0 : Nat) : Int), ()))), ())) (hx : ¬ (x = 0 ∧ 0 < i)) :
    F63c9 (k + 1) b at_ 0 last total cnt i out = F63c16 k b q last total x cnt i out := by
  rw [F63c9_eq, decide_eq_true (by omega), cond_true, r1, Option.bind_some, eq0, cond_false]
  dsimp only
  by_cases h : x = 0
  · rw [decide_eq_true (show (x : Int) = 0 by omega), cond_true, decide_eq_false (by omega), cond_false]
  · rw [decide_eq_false (show ¬ (x : Int) = 0 by omega), cond_false]
theorem p16_err (s1 : F61.run decA decR 4000000 (b, (q : Int), ()) = some (((y : Int), ((p : Int), ((f : Int), ()))), ())) (hf : f ≠ 0) :
    F63c16 (k + 2) b q last total x cnt i out = some (([], ((0 : Int), ((f : Int), ()))), ()) := by
  rw [F63c16_eq, s1, Option.bind_some, ne0 hf, cond_true]
  exact c24_err hf
theorem p16_six (ht : total ≤ 65536) (s1 : F61.run decA decR 4000000 (b, (q : Int), ()) = some (((y : Int), ((p : Int), (((0 : Nat) : Int), ()))), ())) (hy : y = 0 ∨ 65536 - total < y) :
    F63c16 (k + 2) b q last total x cnt i out = some (([], ((0 : Int), (((6 : Nat) : Int), ()))), ()) := by
  rw [F63c16_eq, s1, Option.bind_some, eq0, cond_false]
  dsimp only
  by_cases h : y = 0
  · rw [decide_eq_true (show (y : Int) < 1 by omega), cond_true]
    exact c24_err (e := 6) (by decide)
  · rw [decide_eq_false (show ¬ (y : Int) < 1 by omega), cond_false, u64_wrap_id (z := (65536 : Int) - (total : Int)) (by omega) (by omega), decide_eq_true (show (65536 : Int) - (total : Int) < (y : Int) by omega), cond_true]
    exact c24_err (e := 6) (by decide)
theorem p16_go {z : Int} (ht : total ≤ 65536) (hi : i ≤ 65536) (ho : out.length ≤ 70000) (s1 : F61.run decA decR 4000000 (b, (q : Int), ()) = some (((y : Int), ((p : Int), (((0 : Nat) : Int), ()))), ())) (hy : ¬ (y = 0 ∨ 65536 - total < y))
    (z1 : F81.run [PK.v (Ty.int IntKind.u64)] [RK.v (Ty.int IntKind.i64)] 4000000 ((x : Int), ()) = some ((z, ()), ())) :
    F63c16 (k + 2) b q last total x cnt i out = F63c9 k b p 0 (IntKind.i64.wrap (last + z)) ((total + y : Nat) : Int) cnt ((i + 1 : Nat) : Int) (out ++ [{ value := IntKind.i64.wrap (last + z), count := (y : Int) }]) := by
  rw [F63c16_eq, s1, Option.bind_some, eq0, cond_false]
  dsimp only
  rw [decide_eq_false (show ¬ (y : Int) < 1 by omega), cond_false, u64_wrap_id (z := (65536 : Int) - (total : Int)) (by omega) (by omega), decide_eq_false (show ¬ (65536 : Int) - (total : Int) < (y : Int) by omega), cond_false, F63c20_eq, z1, Option.bind_some]
  dsimp only
  rw [if_pos (show out.length + 1 ≤ lim by simp only [lim]; omega), u64_wrap_id (z := (total : Int) + (y : Int)) (by omega) (by omega), wrap64_id (z := (y : Int)) (by omega) (by omega), wrap64_id (z := (i : Int) + 1) (by omega) (by omega)]
  rfl
theorem q10_err (hc : cnt ≤ 65536) (hi : i < cnt) {left : Int} (r2 : F65.run decA decR 4000000 (b, (at_ : Int), ()) = some (((x : Int), ((q : Int), ((e : Int), ()))), ())) (he : e ≠ 0) :
    F67c10 (k + 1) b cnt at_ last left i out = some (([], ((0 : Int), ((e : Int), ()))), ()) := by
  rw [F67c10_eq, wrap64_id (z := (cnt : Int)) (by omega) (by omega), decide_eq_true (by omega), cond_true, r2, Option.bind_some, ne0 he, cond_true]
theorem q10_zero (hc : cnt ≤ 65536) (hi : i < cnt) {left : Int} (r2 : F65.run decA decR 4000000 (b, (at_ : Int), ()) = some (((x : Int), ((q : Int), (((0 : Nat) : Int), ()))), ())) (hx : x = 0) (hi0 : 0 < i) :
    F67c10 (k + 1) b cnt at_ last left i out = some (([], ((0 : Int), (((4 : Nat) : Int), ()))), ()) := by
  rw [F67c10_eq, wrap64_id (z := (cnt : Int)) (by omega) (by omega), decide_eq_true (by omega), cond_true, r2, Option.bind_some, eq0, cond_false]
  dsimp only
  rw [decide_eq_true (show (x : Int) = 0 by omega), cond_true, decide_eq_true (show (0 : Int) < (i : Int) by omega), cond_true]
  rfl
theorem q10_go (hc : cnt ≤ 65536) (hi : i < cnt) {left : Int} (r2 : F65.run decA decR 4000000 (b, (at_ : Int), ()) = some (((x : Int), ((q : Int), (((0 : Nat) : Int), ()))), ())) (hx : ¬ (x = 0 ∧ 0 < i)) :
    F67c10 (k + 1) b cnt at_ last left i out = F67c17 k b cnt last left i x q out := by
  rw [F67c10_eq, wrap64_id (z := (cnt : Int)) (by omega) (by omega), decide_eq_true (by omega), cond_true, r2, Option.bind_some, eq0, cond_false]
  dsimp only
  by_cases h : x = 0
  · rw [decide_eq_true (show (x : Int) = 0 by omega), cond_true, decide_eq_false (by omega), cond_false]
  · rw [decide_eq_false (show ¬ (x : Int) = 0 by omega), cond_false]
theorem q17_err {left : Int} (s2 : F65.run decA decR 4000000 (b, (q : Int), ()) = some (((y : Int), ((p : Int), ((f : Int), ()))), ())) (hf : f ≠ 0) :
    F67c17 (k + 1) b cnt last left i x q out = some (([], ((0 : Int), ((f : Int), ()))), ()) := by
  rw [F67c17_eq, s2, Option.bind_some, ne0 hf, cond_true]
theorem q17_six (s2 : F65.run decA decR 4000000 (b, (q : Int), ()) = some (((y : Int), ((p : Int), (((0 : Nat) : Int), ()))), ())) (hy : y = 0 ∨ 65536 - total < y) :
    F67c17 (k + 1) b cnt last ((65536 - total : Nat) : Int) i x q out = some (([], ((0 : Int), (((6 : Nat) : Int), ()))), ()) := by
  rw [F67c17_eq, s2, Option.bind_some, eq0, cond_false]
  dsimp only
  by_cases h : y = 0
  · rw [decide_eq_true (show (y : Int) = 0 by omega), cond_true]
    rfl
  · rw [decide_eq_false (show ¬ (y : Int) = 0 by omega), cond_false, decide_eq_true (show ((65536 - total : Nat) : Int) < (y : Int) by omega), cond_true]
    rfl
theorem q17_go {z : Int} (ht : total ≤ 65536) (hi : i ≤ 65536) (ho : out.length ≤ 70000) (s2 : F65.run decA decR 4000000 (b, (q : Int), ()) = some (((y : Int), ((p : Int), (((0 : Nat) : Int), ()))), ())) (hy : ¬ (y = 0 ∨ 65536 - total < y))
    (z2 : F85.run [PK.v (Ty.int IntKind.u64)] [RK.v (Ty.int IntKind.i64)] 4000000 ((x : Int), ()) = some ((z, ()), ())) :
    F67c17 (k + 2) b cnt last ((65536 - total : Nat) : Int) i x q out = F67c10 k b cnt p (IntKind.i64.wrap (last + z)) ((65536 - (total + y) : Nat) : Int) ((i + 1 : Nat) : Int) (out ++ [{ value := IntKind.i64.wrap (last + z), count := (y : Int) }]) := by
  rw [F67c17_eq, s2, Option.bind_some, eq0, cond_false]
  dsimp only
  rw [decide_eq_false (show ¬ (y : Int) = 0 by omega), cond_false, decide_eq_false (show ¬ ((65536 - total : Nat) : Int) < (y : Int) by omega), cond_false, F67c22_eq, z2, Option.bind_some]
  dsimp only
  rw [if_pos (show out.length + 1 ≤ lim by simp only [lim]; omega), u64_wrap_id (z := ((65536 - total : Nat) : Int) - (y : Int)) (by omega) (by omega), wrap64_id (z := (y : Int)) (by omega) (by omega), wrap64_id (z := (i : Int) + 1) (by omega) (by omega), show ((65536 - total : Nat) : Int) - (y : Int) = ((65536 - (total + y) : Nat) : Int) by omega]
  rfl
end steps

theorem Dist_snoc {out : List Run} {v c : Int} (h : Dist out) (hv : 0 < out.length → v ≠ (out.getD (out.length - 1) rz).value) : Dist (out ++ [{ value := v, count := c }]) := by
  intro j h0 hj
  rw [List.length_append, List.length_singleton] at hj
  rw [getD_app, getD_app]
  by_cases hl : j < out.length
  · rw [if_pos hl, if_pos (by omega)]
    exact h j h0 hl
  · have : j = out.length := by omega
    subst this
    rw [if_neg (by omega), if_pos rfl, if_pos (by omega)]
    exact hv h0
theorem cntSum_snoc : ∀ (out : List Run) (r : Run), cntSum (out ++ [r]) = cntSum out + r.count
  | [], r => by simp [cntSum]
  | x :: out, r => by rw [List.cons_append, cntSum, cntSum, cntSum_snoc out r]; omega
theorem wrap_ne {last z : Int} (h1 : -9223372036854775808 ≤ last) (h2 : last < 9223372036854775808) (h3 : -9223372036854775808 ≤ z) (h4 : z < 9223372036854775808) (h0 : z ≠ 0) : IntKind.i64.wrap (last + z) ≠ last := by
  rw [IntKind.wrap_i64]
  omega
theorem wrap_range (z : Int) : -9223372036854775808 ≤ IntKind.i64.wrap z ∧ IntKind.i64.wrap z < 9223372036854775808 := by
  rw [IntKind.wrap_i64]
  omega

theorem rdec_both {b : List Int} (hb : okB b) (hl : b.length ≤ 4000000000) {cnt : Nat} (hcnt : cnt ≤ 65536) {lo : Int} : ∀ (d i n m : Nat) (at_ total : Nat) (last : Int) (out : List Run), cnt - i = d → i ≤ cnt → 3 * d + 3 < n → 3 * d + 3 < m → total ≤ 65536 → at_ ≤ b.length → okC out → out.length = i → Dist out → cntSum out = total → (-9223372036854775808 ≤ last ∧ last < 9223372036854775808) → (0 < out.length → last = (out.getD (out.length - 1) rz).value) → lo ≤ at_ →
    ∃ (l : List Run) (q e : Nat), F63c9 n b at_ 0 last total cnt i out = some ((l, ((q : Int), ((e : Int), ()))), ()) ∧ F67c10 m b cnt at_ last ((65536 - total : Nat) : Int) i out = some ((l, ((q : Int), ((e : Int), ()))), ()) ∧ Out3 (goodR b lo) l q e
  | 0, i, n, m, at_, total, last, out, hd, hi, hn, hm, ht, ha, ho, hol, hdist, hsum, hlr, hlast, hlo => by
    obtain ⟨n, rfl⟩ : ∃ n', n = n' + 2 := ⟨n - 2, by omega⟩
    obtain ⟨m, rfl⟩ : ∃ m', m = m' + 1 := ⟨m - 1, by omega⟩
    refine ⟨out, at_, 0, ?_, ?_, fun _ => ⟨ho, by omega, ha, hdist, by omega, hlo⟩, fun h => absurd rfl h⟩
    · rw [F63c9_eq, decide_eq_false (by omega), cond_false, F63c24_eq]
      rfl
    · rw [F67c10_eq, wrap64_id (z := (cnt : Int)) (by omega) (by omega), decide_eq_false (by omega), cond_false]
      rfl
  | d + 1, i, n, m, at_, total, last, out, hd, hi, hn, hm, ht, ha, ho, hol, hdist, hsum, hlr, hlast, hlo => by
    obtain ⟨n, rfl⟩ : ∃ n', n = n' + 3 := ⟨n - 3, by omega⟩
    obtain ⟨m, rfl⟩ : ∃ m', m = m' + 3 := ⟨m - 3, by omega⟩
    obtain ⟨x, q, e, r1, r2, r3, r4⟩ := dec_run hb hl (at_ : Int)
    have bad : ∀ e : Nat, e ≠ 0 → Out3 (goodR b lo) [] 0 e := fun e he => ⟨fun h => absurd h he, fun _ => ⟨rfl, rfl⟩⟩
    have hilt : i < cnt := by omega
    by_cases he : e = 0
    · subst he
      obtain ⟨q1, q2, q3⟩ := r3 rfl
      by_cases hx : x = 0 ∧ 0 < i
      · exact ⟨[], 0, 4, p9_zero (k := n + 1) hilt r1 hx.1 hx.2, q10_zero (k := m + 2) hcnt hilt r2 hx.1 hx.2, bad 4 (by decide)⟩
      · obtain ⟨y, p, f, s1, s2, s3, s4⟩ := dec_run hb hl (q : Int)
        rw [p9_go (k := n + 2) hilt r1 hx, q10_go (k := m + 2) hcnt hilt r2 hx]
        by_cases hf : f = 0
        · subst hf
          obtain ⟨p1, p2, p3⟩ := s3 rfl
          by_cases hy : y = 0 ∨ 65536 - total < y
          · exact ⟨[], 0, 6, p16_six ht s1 hy, q17_six (k := m + 1) s2 hy, bad 6 (by decide)⟩
          · obtain ⟨z, ⟨zl, zr⟩, z1, z2, zv⟩ := unzig_same q3
            rw [p16_go ht (by omega) (by omega) s1 hy z1, q17_go ht (by omega) (by omega) s2 hy z2]
            exact rdec_both (lo := lo) hb hl hcnt d (i + 1) n m p (total + y) (IntKind.i64.wrap (last + z)) (out ++ [{ value := IntKind.i64.wrap (last + z), count := (y : Int) }]) (by omega) (by omega) (by omega) (by omega) (by omega) p2 (by
                intro r hr
                rcases List.mem_append.1 hr with hr | hr
                · exact ho r hr
                · rw [List.mem_singleton] at hr
                  subst hr
                  exact ⟨by show (1 : Int) ≤ (y : Int); omega, by show (y : Int) ≤ 65536; omega⟩) (by rw [List.length_append, List.length_singleton]; omega)
              (Dist_snoc hdist (fun h0 => by
                rw [← hlast h0]
                refine wrap_ne hlr.1 hlr.2 zl zr ?_
                rw [zv]
                by_cases h2 : x % 2 = 0
                · rw [if_pos h2]; omega
                · rw [if_neg h2]; omega))
              (by rw [cntSum_snoc, hsum]; show (total : Int) + (y : Int) = _; omega) (wrap_range _)
              (fun _ => by rw [List.length_append, List.length_singleton, Nat.add_sub_cancel, getD_app, if_neg (by omega), if_pos rfl]) (by omega)
        · exact ⟨[], 0, f, p16_err s1 hf, q17_err (k := m + 1) s2 hf, bad f hf⟩
    · exact ⟨[], 0, e, p9_err (k := n + 1) hilt r1 he, q10_err (k := m + 2) hcnt hilt r2 he, bad e he⟩

/-- Both read the same runs. -/
theorem rdec_run {b : List Int} (hb : okB b) (hl : b.length ≤ 4000000000) (at_ : Int) :
    ∃ (l : List Run) (q e : Nat), F63.run decA rdR 4000000 (b, at_, ()) = some ((l, ((q : Int), ((e : Int), ()))), ()) ∧ F67.run decA rdR 4000000 (b, at_, ()) = some ((l, ((q : Int), ((e : Int), ()))), ()) ∧ Out3 (goodR b at_) l q e := by
  rw [show F63.run decA rdR 4000000 (b, at_, ()) = _ from F63_run _ _ _, show F67.run decA rdR 4000000 (b, at_, ()) = _ from F67_run _ _ _]
  rw [show F63c1 4000000 b at_ = _ from F63c1_eq 3999999 _ _, show F67c1 4000000 b at_ = _ from F67c1_eq 3999999 _ _]
  obtain ⟨x, q, e, r1, r2, r3, r4⟩ := dec_run hb hl at_
  have bad : ∀ e : Nat, e ≠ 0 → Out3 (goodR b at_) [] 0 e := fun e he => ⟨fun h => absurd h he, fun _ => ⟨rfl, rfl⟩⟩
  rw [r1, r2]
  simp only [Option.bind_some]
  by_cases he : e = 0
  · subst he
    obtain ⟨q1, q2, q3⟩ := r3 rfl
    rw [eq0, cond_false, cond_false]
    by_cases hx : 65536 < x
    · rw [decide_eq_true (by omega), cond_true, cond_true]
      exact ⟨[], 0, 6, rfl, rfl, bad 6 (by decide)⟩
    · rw [decide_eq_false (by omega), cond_false, cond_false, wrap64_id (z := (x : Int)) (by omega) (by omega)]
      exact rdec_both hb hl (cnt := x) (by omega) x 0 3999999 3999999 q 0 0 [] (by omega) (by omega) (by omega) (by omega) (by omega) q2 (fun r hr => by cases hr) (by simp) (fun j h0 hj => by simp at hj) rfl ⟨by omega, by omega⟩ (fun h => by simp at h) (by omega)
  · rw [ne0 he, cond_true, cond_true]
    exact ⟨[], 0, e, rfl, rfl, bad e he⟩

/-! Words. -/
def goodW (b : List Int) (cnt : Nat) (lo : Int) (W : List (List Int)) (q : Nat) : Prop := W.length ≤ cnt ∧ (∀ w ∈ W, w.length ≤ 4096) ∧ q ≤ b.length ∧ lo ≤ q
def wordAt (b : List Int) (q x : Nat) : List Int := List.map Eng.byteOf (List.drop q (List.take (q + x) b))
theorem wordAt_len {b : List Int} {q x : Nat} : (wordAt b q x).length ≤ x := by
  simp only [wordAt, List.length_map, List.length_drop, List.length_take]
  omega
abbrev wdR : List RK := [RK.own 9 Ty.str, RK.v (Ty.int IntKind.i64), RK.v (Ty.int IntKind.i64)]
abbrev wdA : List PK := [PK.v (Ty.int IntKind.u8).sl, PK.v (Ty.int IntKind.i64), PK.v (Ty.int IntKind.i64)]

theorem words_both {b : List Int} (hb : okB b) (hl : b.length ≤ 4000000000) {cnt : Nat} (hcnt : cnt ≤ 65536) {lo : Int} : ∀ (d i n m : Nat) (at_ : Nat) (W : List (List Int)), cnt - i = d → i ≤ cnt → 2 * d < n → 2 * d < m → at_ ≤ b.length → W.length = i → (∀ w ∈ W, w.length ≤ 4096) → lo ≤ at_ →
    ∃ (l : List (List Int)) (q e : Nat), F44c8 n b at_ cnt i W = some ((l, ((q : Int), ((e : Int), ()))), ()) ∧ F47c8 m b cnt at_ i W = some ((l, ((q : Int), ((e : Int), ()))), ()) ∧ Out3 (goodW b cnt lo) l q e
  | 0, i, n, m, at_, W, hd, hi, hn, hm, ha, hWl, hW, hlo => by
    obtain ⟨n, rfl⟩ : ∃ n', n = n' + 1 := ⟨n - 1, by omega⟩
    obtain ⟨m, rfl⟩ : ∃ m', m = m' + 1 := ⟨m - 1, by omega⟩
    refine ⟨W, at_, 0, ?_, ?_, fun _ => ⟨by omega, hW, ha, hlo⟩, fun h => absurd rfl h⟩
    · rw [F44c8_eq, decide_eq_false (by omega), cond_false]
      rfl
    · rw [F47c8_eq, wrap64_id (z := (cnt : Int)) (by omega) (by omega), decide_eq_false (by omega), cond_false]
      rfl
  | d + 1, i, n, m, at_, W, hd, hi, hn, hm, ha, hWl, hW, hlo => by
    obtain ⟨n, rfl⟩ : ∃ n', n = n' + 2 := ⟨n - 2, by omega⟩
    obtain ⟨m, rfl⟩ : ∃ m', m = m' + 2 := ⟨m - 2, by omega⟩
    obtain ⟨x, q, e, r1, r2, r3, r4⟩ := dec_run hb hl (at_ : Int)
    have bad : ∀ e : Nat, e ≠ 0 → Out3 (goodW b cnt lo) [] 0 e := fun e he => ⟨fun h => absurd h he, fun _ => ⟨rfl, rfl⟩⟩
    have h1 := F44c8_eq (n + 1) b at_ cnt i W
    have h2 := F47c8_eq (m + 1) b cnt at_ i W
    rw [decide_eq_true (show (i : Int) < (cnt : Int) by omega), cond_true, r1, Option.bind_some] at h1
    rw [wrap64_id (z := (cnt : Int)) (by omega) (by omega), decide_eq_true (show (i : Int) < (cnt : Int) by omega), cond_true, r2, Option.bind_some] at h2
    dsimp only at h1 h2
    by_cases he : e = 0
    · subst he
      obtain ⟨q1, q2, q3⟩ := r3 rfl
      rw [eq0, cond_false] at h1 h2
      by_cases hx : 4096 < x
      · rw [decide_eq_true (show (4096 : Int) < (x : Int) by omega), cond_true] at h1 h2
        exact ⟨[], 0, 3, h1, h2, bad 3 (by decide)⟩
      · rw [decide_eq_false (show ¬ (4096 : Int) < (x : Int) by omega), cond_false, wrap64_id (z := (b.length : Int) - (q : Int)) (by omega) (by omega), wrap64_id (z := (x : Int)) (by omega) (by omega)] at h1 h2
        by_cases hs : b.length - q < x
        · rw [decide_eq_true (show (b.length : Int) - (q : Int) < (x : Int) by omega), cond_true] at h1 h2
          exact ⟨[], 0, 2, h1, h2, bad 2 (by decide)⟩
        · rw [decide_eq_false (show ¬ (b.length : Int) - (q : Int) < (x : Int) by omega), cond_false, wrap64_id (z := (q : Int) + (x : Int)) (by omega) (by omega), if_pos (show (0 : Int) ≤ (q : Int) by omega), if_pos (show (q : Int) ≤ (q : Int) + (x : Int) by omega), if_pos (show (q : Int) + (x : Int) ≤ (b.length : Int) by omega)] at h1 h2
          have hwd : List.map Eng.byteOf (List.drop (Int.toNat (q : Int)) (List.take ((q : Int) + (x : Int)).toNat b)) = wordAt b q x := by
            rw [Int.toNat_natCast, show ((q : Int) + (x : Int)).toNat = q + x by omega]
            rfl
          rw [hwd] at h1 h2
          have next : ∃ (l : List (List Int)) (q' e' : Nat), F44c21 (n + 1) b ((q : Int) + (x : Int)) (wordAt b q x) cnt i W = some ((l, ((q' : Int), ((e' : Int), ()))), ()) ∧ F47c20 (m + 1) b cnt i x q (wordAt b q x) W = some ((l, ((q' : Int), ((e' : Int), ()))), ()) ∧ Out3 (goodW b cnt lo) l q' e' := by
            rw [F44c21_eq, if_pos (show W.length + 1 ≤ lim by simp only [lim]; omega), F47c20_eq, if_pos (show W.length + 1 ≤ lim by simp only [lim]; omega), wrap64_id (z := (i : Int) + 1) (by omega) (by omega), wrap64_id (z := (x : Int)) (by omega) (by omega), wrap64_id (z := (q : Int) + (x : Int)) (by omega) (by omega), show (q : Int) + (x : Int) = ((q + x : Nat) : Int) by omega, show (i : Int) + 1 = ((i + 1 : Nat) : Int) by omega]
            exact words_both (lo := lo) hb hl hcnt d (i + 1) n m (q + x) (W ++ [wordAt b q x]) (by omega) (by omega) (by omega) (by omega) (by omega) (by rw [List.length_append, List.length_singleton, hWl]) (by
              intro w hw
              rcases List.mem_append.1 hw with hw | hw
              · exact hW w hw
              · rw [List.mem_singleton] at hw
                subst hw
                exact Nat.le_trans wordAt_len (by omega)) (by omega)
          by_cases hi0 : 0 < i
          · have hwi : IntKind.i64.wrap ((i : Int) - 1) = ((i - 1 : Nat) : Int) := by rw [wrap64_id (by omega) (by omega)]; omega
            rw [decide_eq_true (show (0 : Int) < (i : Int) by omega), cond_true, hwi, if_pos (show (0 : Int) ≤ ((i - 1 : Nat) : Int) by omega), if_pos (show ((i - 1 : Nat) : Int) < (W.length : Int) by omega)] at h1 h2
            cases hc : Eng.strLt (W.getD (((i - 1 : Nat) : Int)).toNat []) (wordAt b q x) with
            | true =>
              rw [hc, Bool.not_true, cond_false] at h1 h2
              rw [h1, h2]
              exact next
            | false =>
              rw [hc, Bool.not_false, cond_true] at h1 h2
              exact ⟨[], 0, 4, h1, h2, bad 4 (by decide)⟩
          · rw [decide_eq_false (show ¬ (0 : Int) < (i : Int) by omega), cond_false] at h1 h2
            rw [h1, h2]
            exact next
    · rw [ne0 he, cond_true] at h1 h2
      exact ⟨[], 0, e, h1, h2, bad e he⟩
theorem rwords_run {b : List Int} (hb : okB b) (hl : b.length ≤ 4000000000) (at_ : Int) {N : Nat} (hN : N ≤ 65536) :
    ∃ (l : List (List Int)) (q e : Nat), F44.run wdA wdR 4000000 (b, at_, (N : Int), ()) = some ((l, ((q : Int), ((e : Int), ()))), ()) ∧ F47.run wdA wdR 4000000 (b, at_, (N : Int), ()) = some ((l, ((q : Int), ((e : Int), ()))), ()) ∧ Out3 (goodW b N at_) l q e := by
  rw [show F44.run wdA wdR 4000000 (b, at_, (N : Int), ()) = _ from F44_run _ _ _ _, show F47.run wdA wdR 4000000 (b, at_, (N : Int), ()) = _ from F47_run _ _ _ _]
  rw [show F44c1 4000000 b at_ N = _ from F44c1_eq 3999999 _ _ _, show F47c1 4000000 b at_ N = _ from F47c1_eq 3999999 _ _ _]
  obtain ⟨x, q, e, r1, r2, r3, r4⟩ := dec_run hb hl at_
  have bad : ∀ e : Nat, e ≠ 0 → Out3 (goodW b N at_) [] 0 e := fun e he => ⟨fun h => absurd h he, fun _ => ⟨rfl, rfl⟩⟩
  rw [r1, r2, u64_wrap_id (z := (N : Int)) (by omega) (by omega)]
  simp only [Option.bind_some]
  by_cases he : e = 0
  · subst he
    obtain ⟨q1, q2, q3⟩ := r3 rfl
    rw [eq0, cond_false, cond_false]
    by_cases hx : N < x
    · rw [decide_eq_true (show (N : Int) < (x : Int) by omega), cond_true, cond_true]
      exact ⟨[], 0, 6, rfl, rfl, bad 6 (by decide)⟩
    · rw [decide_eq_false (show ¬ (N : Int) < (x : Int) by omega), cond_false, cond_false, wrap64_id (z := (x : Int)) (by omega) (by omega)]
      obtain ⟨l, q', e', g1, g2, g3⟩ := words_both hb hl (cnt := x) (by omega) x 0 3999999 3999999 q [] (by omega) (by omega) (by omega) (by omega) q2 rfl (fun w hw => by cases hw) (lo := at_) (by omega)
      exact ⟨l, q', e', g1, g2, fun h => ⟨Nat.le_trans (g3.1 h).1 (by omega), (g3.1 h).2⟩, g3.2⟩
  · rw [ne0 he, cond_true, cond_true]
    exact ⟨[], 0, e, rfl, rfl, bad e he⟩

/-! Codes. -/
theorem okB_of {b : List Int} (h : ∀ x ∈ b, 0 ≤ x ∧ x < 256) : okB b := by
  intro i hi
  have := h (b[i]) (List.getElem_mem hi)
  refine ⟨b[i].toNat, ?_, by omega⟩
  rw [List.getD_eq_getElem?_getD, List.getElem?_eq_getElem hi]
  show b[i] = _
  omega
def slice (b : List Int) (p q : Nat) : List Int := List.drop p (List.take q b)
theorem slice_ok {b : List Int} (hb : okB b) (p q : Nat) : okB (slice b p q) := okB_of fun x hx => okB_mem hb x (List.mem_of_mem_take (List.mem_of_mem_drop hx))
theorem slice_len {b : List Int} {p q : Nat} (hq : q ≤ b.length) : (slice b p q).length = q - p := by
  simp only [slice, List.length_drop, List.length_take]
  omega
/-- Numbers that are codes. -/
def goodC (b : List Int) (N : Nat) (lo : Int) (l : List Int) (q : Nat) : Prop := okU l ∧ l.length = N ∧ q ≤ b.length ∧ lo ≤ q
abbrev cdR : List RK := [RK.own 58 (Ty.int IntKind.u64), RK.v (Ty.int IntKind.i64), RK.v (Ty.int IntKind.i64)]

theorem unp_okU {b : List Int} {w N : Nat} (hw : w ≤ 64) : okU (unp b w N) := by
  intro i hi
  rw [unp_len] at hi
  refine ⟨valB b / 2 ^ (i * w) % 2 ^ w, ?_, ?_⟩
  · rw [unp, List.getD_eq_getElem?_getD, List.getElem?_map, List.getElem?_range hi]; rfl
  · exact Nat.lt_of_lt_of_le (Nat.mod_lt _ (Nat.two_pow_pos w)) (Nat.pow_le_pow_right (n := 2) (j := 64) (by decide) hw)

theorem u64s_c11 {x : List Int} {q : Int} (hl : x.length ≤ 100000) : ∀ (n m i : Nat), x.length - i < n → x.length - i < m → i ≤ x.length →
    F46c11 n q (x.length : Int) i ((x.take i).map IntKind.u64.wrap) x = some ((x.map IntKind.u64.wrap, (q, ((0 : Int), ()))), ()) ∧ F48c19 m q i x ((x.take i).map IntKind.u64.wrap) = some ((x.map IntKind.u64.wrap, (q, ((0 : Int), ()))), ())
  | 0, m, i, h, _, _ => by omega
  | n + 1, 0, i, _, h, _ => by omega
  | n + 1, m + 1, i, h, h', hi => by
    rw [F46c11_eq, F48c19_eq]
    by_cases hlt : i < x.length
    · obtain ⟨i1, i2⟩ := u64s_c11 (q := q) hl n m (i + 1) (by omega) (by omega) (by omega)
      rw [List.take_succ_eq_append_getElem hlt, List.map_append] at i1 i2
      rw [decide_eq_true (show (i : Int) < (x.length : Int) by omega), cond_true, cond_true, if_pos (show (0 : Int) ≤ (i : Int) by omega), if_pos (show (i : Int) < (x.length : Int) by omega), if_pos (show ((x.take i).map IntKind.u64.wrap).length + 1 ≤ lim by simp only [List.length_map, List.length_take, lim]; omega),
        if_pos (show (0 : Int) ≤ (i : Int) by omega), if_pos (show (i : Int) < (x.length : Int) by omega), if_pos (show ((x.take i).map IntKind.u64.wrap).length + 1 ≤ lim by simp only [List.length_map, List.length_take, lim]; omega), wrap64_id (z := (i : Int) + 1) (by omega) (by omega), Int.toNat_natCast, List.getD_eq_getElem?_getD, List.getElem?_eq_getElem hlt]
      exact ⟨i1, i2⟩
    · have : i = x.length := by omega
      subst this
      rw [decide_eq_false (show ¬ (x.length : Int) < (x.length : Int) by omega), cond_false, cond_false, List.take_length]
      exact ⟨rfl, rfl⟩
theorem wrapU_okU (x : List Int) : okU (x.map IntKind.u64.wrap) := by
  intro i hi
  rw [List.length_map] at hi
  have hw : 0 ≤ IntKind.u64.wrap x[i] ∧ IntKind.u64.wrap x[i] < 18446744073709551616 := by
    simp only [IntKind.wrap, IntKind.bits, IntKind.signed]
    simp
    omega
  refine ⟨(IntKind.u64.wrap x[i]).toNat, ?_, by omega⟩
  rw [List.getD_eq_getElem?_getD, List.getElem?_map, List.getElem?_eq_getElem hi]
  show IntKind.u64.wrap x[i] = _
  omega

abbrev ckA : List PK := [PK.v (Ty.int IntKind.u8).sl, PK.v (Ty.int IntKind.i64), PK.v (Ty.int IntKind.i64), PK.v (Ty.int IntKind.i64)]
/-- The reference at a mark. -/
theorem mark_c1 {b : List Int} (hl : b.length ≤ 100000000) {at_ N K : Nat} (ha : at_ < b.length) {c : Nat} (hc : b.getD at_ 0 = (c : Int)) (n : Nat) {R : Option (HRes NN.ρ cdR × HOut NN.ρ ckA)}
    (hbig : 1 < c → R = some (([], ((0 : Int), ((4 : Int), ()))), ()))
    (h0 : c = 0 → ∃ r0 : Int, F35.run [PK.v (Ty.int IntKind.i64)] [RK.v (Ty.int IntKind.i64)] 4000000 ((K : Int), ()) = some ((r0, ()), ()) ∧ ∃ r1 : Int, F53.run [PK.v (Ty.int IntKind.i64), PK.v (Ty.int IntKind.i64)] [RK.v (Ty.int IntKind.i64)] 4000000 ((N : Int), r0, ()) = some ((r1, ()), ()) ∧
      ((b.length : Int) - ((at_ + 1 : Nat) : Int) < r1 → R = some (([], ((0 : Int), ((2 : Int), ()))), ())) ∧ (¬ (b.length : Int) - ((at_ + 1 : Nat) : Int) < r1 → 0 ≤ r1 ∧ ∃ (l : List Int) (e : Int), F66.run upA upR 4000000 (List.drop (at_ + 1) (List.take (((at_ + 1 : Nat) : Int) + r1).toNat b), (N : Int), r0, ()) = some ((l, (e, ())), ()) ∧ R = some ((l, (((at_ + 1 : Nat) : Int) + r1, (e, ()))), ())))
    (h1 : c = 1 → ∃ (l : List Run) (q e : Int), F67.run decA rdR 4000000 (b, ((at_ + 1 : Nat) : Int), ()) = some ((l, (q, (e, ()))), ()) ∧ (e ≠ 0 → R = some (([], ((0 : Int), (e, ()))), ())) ∧ (e = 0 → ∃ (x : List Int) (f : Int), F68.run exA exR 4000000 (l, ()) = some ((x, (f, ())), ()) ∧
      ((x.length : Int) ≠ (N : Int) → R = some (([], ((0 : Int), ((18 : Int), ()))), ())) ∧ ((x.length : Int) = (N : Int) → F48c19 n q (0 : Int) x [] = R))) :
    F48c1 (n + 1) b (at_ : Int) N K = R := by
  have h2 := F48c1_eq n b (at_ : Int) N K
  have hg : b.getD ((at_ : Int)).toNat 0 = (c : Int) := by rw [Int.toNat_natCast]; exact hc
  have hw1 : IntKind.i64.wrap ((at_ : Int) + 1) = ((at_ + 1 : Nat) : Int) := by rw [wrap64_id (by omega) (by omega)]; omega
  have hw2 : IntKind.i64.wrap (IntKind.i64.wrap ((b.length : Int) - (at_ : Int)) - 1) = (b.length : Int) - ((at_ + 1 : Nat) : Int) := by
    rw [wrap64_id (z := (b.length : Int) - (at_ : Int)) (by omega) (by omega), wrap64_id (by omega) (by omega)]; omega
  generalize b.getD ((at_ : Int)).toNat 0 = c' at hg h2
  subst hg
  rw [hw1, hw2, decide_eq_false (show ¬ (at_ : Int) = (b.length : Int) by omega), cond_false, if_pos (show (0 : Int) ≤ (at_ : Int) by omega), if_pos (show (at_ : Int) < (b.length : Int) by omega), if_pos (show (0 : Int) ≤ (at_ : Int) by omega), if_pos (show (at_ : Int) < (b.length : Int) by omega)] at h2
  rw [h2]
  clear h2
  by_cases hc1 : 1 < c
  · rw [decide_eq_true (show (1 : Int) < (c : Int) by omega), cond_true, hbig hc1]
  · rw [decide_eq_false (show ¬ (1 : Int) < (c : Int) by omega), cond_false]
    by_cases hc0 : c = 0
    · obtain ⟨r0, e0, r1, e1, a1, a2⟩ := h0 hc0
      rw [decide_eq_true (show (c : Int) = 0 by omega), cond_true, e0, Option.bind_some]
      dsimp only
      rw [e1, Option.bind_some]
      dsimp only
      by_cases hs : (b.length : Int) - ((at_ + 1 : Nat) : Int) < r1
      · rw [decide_eq_true hs, cond_true, a1 hs]
      · obtain ⟨b1, l, e, b2, b3⟩ := a2 hs
        rw [decide_eq_false hs, cond_false, wrap64_id (z := ((at_ + 1 : Nat) : Int) + r1) (by omega) (by omega), if_pos (show (0 : Int) ≤ ((at_ + 1 : Nat) : Int) by omega), if_pos (show ((at_ + 1 : Nat) : Int) ≤ ((at_ + 1 : Nat) : Int) + r1 by omega), if_pos (show ((at_ + 1 : Nat) : Int) + r1 ≤ (b.length : Int) by omega), Option.bind_some, Int.toNat_natCast, b2, b3]
        rfl
    · obtain ⟨l, q, e, e1, a1, a2⟩ := h1 (by omega)
      rw [decide_eq_false (show ¬ (c : Int) = 0 by omega), cond_false, e1]
      erw [Option.bind_some]
      dsimp only
      by_cases he : e = 0
      · obtain ⟨x, f, x1, x2, x3⟩ := a2 he
        rw [decide_eq_true he, Bool.not_true, cond_false, x1]
        erw [Option.bind_some]
        dsimp only
        by_cases hx : (x.length : Int) = (N : Int)
        · rw [decide_eq_true hx, Bool.not_true, cond_false]
          exact x3 hx
        · rw [decide_eq_false hx, Bool.not_false, cond_true, x2 hx]
      · rw [decide_eq_false he, Bool.not_false, cond_true, a1 he]

/-- The packed ones. -/
theorem packed_both {b : List Int} (hb : okB b) (hl : b.length ≤ 100000000) {at_ N K : Nat} (hN : N ≤ 65536) (hK : K ≤ 65536) (ha : at_ < b.length) (h0 : b.getD at_ 0 = 0) :
    ∃ (l : List Int) (q e : Nat) (q0 : Int), F45.run ckA cdR 4000000 (b, ((at_ + 1 : Nat) : Int), (N : Int), (K : Int), ()) = some ((l, (q0, ((e : Int), ()))), ()) ∧
      F48.run ckA cdR 4000000 (b, (at_ : Int), (N : Int), (K : Int), ()) = some ((l, (q0, ((e : Int), ()))), ()) ∧ (e = 0 → q0 = (q : Int) ∧ goodC b N at_ l q) := by
  have hcw := cw_le (x := K) (by omega)
  have hNw : N * cw K ≤ 65536 * 64 := Nat.mul_le_mul hN (by omega)
  have hps : psize N (cw K) ≤ 600000 := by unfold psize; omega
  rw [show F45.run ckA cdR 4000000 (b, ((at_ + 1 : Nat) : Int), (N : Int), (K : Int), ()) = _ from F45_run _ _ _ _ _, show F48.run ckA cdR 4000000 (b, (at_ : Int), (N : Int), (K : Int), ()) = _ from F48_run _ _ _ _ _]
  have h1 : F45c1 4000000 b ((at_ + 1 : Nat) : Int) N K = _ := F45c1_eq 3999999 _ _ _ _
  rw [width_run (by omega), Option.bind_some] at h1
  dsimp only at h1
  rw [psize_run (by omega) (by omega), Option.bind_some] at h1
  dsimp only at h1
  rw [wrap64_id (z := (b.length : Int) - ((at_ + 1 : Nat) : Int)) (by omega) (by omega)] at h1
  by_cases hs : b.length - (at_ + 1) < psize N (cw K)
  · rw [decide_eq_true (show (b.length : Int) - ((at_ + 1 : Nat) : Int) < ((psize N (cw K) : Nat) : Int) by omega), cond_true] at h1
    refine ⟨[], 0, 2, 0, h1, mark_c1 hl ha (c := 0) h0 3999999 (fun h => by omega) (fun _ => ⟨_, rwidth_run (by omega), _, rsize_run (by omega) (by omega), fun _ => rfl, fun h => ?_⟩) (fun h => by omega), (fun h => by cases h)⟩
    exact absurd (show (b.length : Int) - ((at_ + 1 : Nat) : Int) < ((psize N (cw K) : Nat) : Int) by omega) h
  · have hwq : IntKind.i64.wrap (((at_ + 1 : Nat) : Int) + ((psize N (cw K) : Nat) : Int)) = ((at_ + 1 + psize N (cw K) : Nat) : Int) := by rw [wrap64_id (by omega) (by omega)]; omega
    rw [decide_eq_false (show ¬ (b.length : Int) - ((at_ + 1 : Nat) : Int) < ((psize N (cw K) : Nat) : Int) by omega), cond_false, hwq, if_pos (show (0 : Int) ≤ ((at_ + 1 : Nat) : Int) by omega), if_pos (show ((at_ + 1 : Nat) : Int) ≤ ((at_ + 1 + psize N (cw K) : Nat) : Int) by omega), if_pos (show ((at_ + 1 + psize N (cw K) : Nat) : Int) ≤ (b.length : Int) by omega)] at h1
    rw [Option.bind_some] at h1
    obtain ⟨l, e, u1, u2, u3, u4, u5⟩ := unpack_run (slice_ok hb (at_ + 1) (at_ + 1 + psize N (cw K))) (w := cw K) (N := N) (by omega) hN (by rw [slice_len (by omega)]; omega)
    have e1 : List.drop (((at_ + 1 : Nat) : Int)).toNat (List.take (((at_ + 1 + psize N (cw K) : Nat) : Int)).toNat b) = slice b (at_ + 1) (at_ + 1 + psize N (cw K)) := by rw [Int.toNat_natCast, Int.toNat_natCast]; rfl
    rw [e1] at h1
    dsimp only at h1
    rw [u1, Option.bind_some] at h1
    refine ⟨l, at_ + 1 + psize N (cw K), e, _, h1, mark_c1 hl ha (c := 0) h0 3999999 (fun h => by omega) (fun _ => ⟨_, rwidth_run (by omega), _, rsize_run (by omega) (by omega), fun h => ?_, fun _ => ⟨by omega, l, (e : Int), ?_, ?_⟩⟩) (fun h => by omega), fun h => ⟨rfl, ?_, ?_, by omega, by omega⟩⟩
    · exact absurd h (show ¬ (b.length : Int) - ((at_ + 1 : Nat) : Int) < ((psize N (cw K) : Nat) : Int) by omega)
    · rw [show (((at_ + 1 : Nat) : Int) + ((psize N (cw K) : Nat) : Int)).toNat = at_ + 1 + psize N (cw K) by omega]
      exact u2
    · rw [show ((at_ + 1 : Nat) : Int) + ((psize N (cw K) : Nat) : Int) = ((at_ + 1 + psize N (cw K) : Nat) : Int) by omega]
    · rw [u3 h]; exact unp_okU (by omega)
    · rw [u3 h, unp_len]

/-- The ones in runs. -/
theorem runs_both {b : List Int} (hb : okB b) (hl : b.length ≤ 100000000) {at_ N K : Nat} (hN : N ≤ 65536) (ha : at_ < b.length) (h0 : b.getD at_ 0 = 1) :
    ∃ (l : List Int) (q e : Nat), F46.run wdA cdR 4000000 (b, ((at_ + 1 : Nat) : Int), (N : Int), ()) = some ((l, ((q : Int), ((e : Int), ()))), ()) ∧
      F48.run ckA cdR 4000000 (b, (at_ : Int), (N : Int), (K : Int), ()) = some ((l, ((q : Int), ((e : Int), ()))), ()) ∧ Out3 (goodC b N at_) l q e := by
  rw [show F46.run wdA cdR 4000000 (b, ((at_ + 1 : Nat) : Int), (N : Int), ()) = _ from F46_run _ _ _ _, show F48.run ckA cdR 4000000 (b, (at_ : Int), (N : Int), (K : Int), ()) = _ from F48_run _ _ _ _ _]
  have bad : ∀ e : Nat, e ≠ 0 → Out3 (goodC b N at_) [] 0 e := fun e he => ⟨fun h => absurd h he, fun _ => ⟨rfl, rfl⟩⟩
  have h1 : F46c1 4000000 b ((at_ + 1 : Nat) : Int) N = _ := F46c1_eq 3999999 _ _ _
  obtain ⟨l, q, e, r1, r2, r3, r4⟩ := rdec_run hb (by omega) ((at_ + 1 : Nat) : Int)
  rw [r1] at h1
  erw [Option.bind_some] at h1
  dsimp only at h1
  by_cases he : e = 0
  · subst he
    obtain ⟨g1, g2, g3, g4, g5, g6⟩ := r3 rfl
    obtain ⟨x, f, x1, x2, x3, x4⟩ := expand_run g1 (by omega)
    have hf := x4 g4 g5
    subst hf
    obtain ⟨x5, x6⟩ := x3 rfl
    have hxl : x.length ≤ 65536 := by have := expT_len g1; rw [← x5] at this; omega
    rw [eq0, cond_false, x1] at h1
    erw [Option.bind_some] at h1
    dsimp only at h1
    rw [eq0, cond_false] at h1
    by_cases hx : x.length = N
    · rw [decide_eq_true (show (x.length : Int) = (N : Int) by omega), Bool.not_true, cond_false] at h1
      obtain ⟨i1, i2⟩ := u64s_c11 (x := x) (q := (q : Int)) (by omega) 3999999 3999999 0 (by omega) (by omega) (by omega)
      refine ⟨x.map IntKind.u64.wrap, q, 0, h1.trans i1, mark_c1 hl ha (c := 1) h0 3999999 (fun h => by omega) (fun h => by cases h) (fun _ => ⟨l, q, _, r2, fun h => absurd rfl h, fun _ => ⟨x, _, x2, fun h => absurd (show (x.length : Int) = (N : Int) by omega) h, fun _ => i2⟩⟩), fun _ => ⟨wrapU_okU x, by rw [List.length_map]; exact hx, g3, by omega⟩, fun h => absurd rfl h⟩
    · rw [decide_eq_false (show ¬ (x.length : Int) = (N : Int) by omega), Bool.not_false, cond_true] at h1
      exact ⟨[], 0, 18, h1, mark_c1 hl ha (c := 1) h0 3999999 (fun h => by omega) (fun h => by cases h) (fun _ => ⟨l, q, _, r2, fun h => absurd rfl h, fun _ => ⟨x, _, x2, fun _ => rfl, fun h => absurd (show x.length = N by omega) hx⟩⟩), bad 18 (by decide)⟩
  · rw [ne0 he, cond_true] at h1
    refine ⟨[], 0, e, h1, mark_c1 hl ha (c := 1) h0 3999999 (fun h => by omega) (fun h => by cases h) (fun _ => ⟨l, q, e, r2, fun _ => rfl, fun h => absurd h (by omega)⟩), bad e he⟩


/-! The strings of the codes. -/
theorem gather_both {b : List Int} {off q N : Nat} {W : List (List Int)} {l : List Int} (hl : l.length = N) (hu : okU l) (hN : N ≤ 300) (hWl : W.length ≤ 65536) (hW : ∀ w ∈ W, w.length ≤ 4096) (ho : off ≤ q) (hq : q ≤ b.length) : ∀ (d i n m : Nat) (out : List (List Int)), N - i = d → i ≤ N → d < n → d < m → out.length = i → (∀ w ∈ out, w.length ≤ 4096) →
    ∃ (L : List (List Int)) (q' e : Nat), F24c19 n b off q N i W out l = some ((L, ((q' : Int), ((e : Int), ()))), ()) ∧ F25c11 m b off q i W l out = some ((L, ((q' : Int), ((e : Int), ()))), ()) ∧ L.length ≤ 300
  | 0, i, n, m, out, hd, hi, hn, hm, hol, how => by
    obtain ⟨n, rfl⟩ : ∃ n', n = n' + 1 := ⟨n - 1, by omega⟩
    obtain ⟨m, rfl⟩ : ∃ m', m = m' + 1 := ⟨m - 1, by omega⟩
    have h1 := F24c19_eq n b off q N i W out l
    have h2 := F25c11_eq m b off q i W l out
    rw [decide_eq_false (show ¬ (i : Int) < (N : Int) by omega), cond_false, enc_run (by omega) how, Option.bind_some, if_pos (show (0 : Int) ≤ (off : Int) by omega), if_pos (show (off : Int) ≤ (q : Int) by omega), if_pos (show (q : Int) ≤ (b.length : Int) by omega)] at h1
    rw [decide_eq_false (show ¬ (i : Int) < (l.length : Int) by omega), cond_false, renc_run (by omega) how, Option.bind_some, if_pos (show (0 : Int) ≤ (off : Int) by omega), if_pos (show (off : Int) ≤ (q : Int) by omega), if_pos (show (q : Int) ≤ (b.length : Int) by omega)] at h2
    dsimp only at h1 h2
    by_cases he : List.map Eng.byteOf (encT out) = List.map Eng.byteOf (List.drop ((off : Int)).toNat (List.take ((q : Int)).toNat b))
    · rw [decide_eq_true he, Bool.not_true, cond_false] at h1 h2
      exact ⟨out, q, 0, h1, h2, by omega⟩
    · rw [decide_eq_false he, Bool.not_false, cond_true] at h1 h2
      exact ⟨[], 0, 4, h1, h2, by simp⟩
  | d + 1, i, n, m, out, hd, hi, hn, hm, hol, how => by
    obtain ⟨n, rfl⟩ : ∃ n', n = n' + 1 := ⟨n - 1, by omega⟩
    obtain ⟨m, rfl⟩ : ∃ m', m = m' + 1 := ⟨m - 1, by omega⟩
    have h1 := F24c19_eq n b off q N i W out l
    have h2 := F25c11_eq m b off q i W l out
    obtain ⟨c, hc, hc64⟩ := hu i (by omega)
    have hc' : l.getD ((i : Int)).toNat 0 = (c : Int) := by rw [Int.toNat_natCast]; exact hc
    rw [hc', u64_wrap_id (z := (W.length : Int)) (by omega) (by omega), Int.toNat_natCast, decide_eq_true (show (i : Int) < (N : Int) by omega), cond_true, if_pos (show (0 : Int) ≤ (i : Int) by omega), if_pos (show (i : Int) < (l.length : Int) by omega)] at h1
    rw [hc', u64_wrap_id (z := (W.length : Int)) (by omega) (by omega), Int.toNat_natCast, decide_eq_true (show (i : Int) < (l.length : Int) by omega), cond_true, if_pos (show (0 : Int) ≤ (i : Int) by omega), if_pos (show (i : Int) < (l.length : Int) by omega)] at h2
    by_cases hcl : W.length ≤ c
    · rw [decide_eq_true (show (W.length : Int) ≤ (c : Int) by omega), cond_true] at h1 h2
      exact ⟨[], 0, 6, h1, h2, by simp⟩
    · rw [decide_eq_false (show ¬ (W.length : Int) ≤ (c : Int) by omega), cond_false, if_pos (show (0 : Int) ≤ (c : Int) by omega), if_pos (show (c : Int) < (W.length : Int) by omega), if_pos (show out.length + 1 ≤ lim by simp only [lim]; omega), wrap64_id (z := (i : Int) + 1) (by omega) (by omega)] at h1
      rw [decide_eq_false (show ¬ (W.length : Int) ≤ (c : Int) by omega), cond_false, if_pos (show (0 : Int) ≤ (i : Int) by omega), if_pos (show (i : Int) < (l.length : Int) by omega), if_pos (show (0 : Int) ≤ (c : Int) by omega), if_pos (show (c : Int) < (W.length : Int) by omega), if_pos (show out.length + 1 ≤ lim by simp only [lim]; omega), wrap64_id (z := (i : Int) + 1) (by omega) (by omega)] at h2
      obtain ⟨L, q', e, g1, g2, g3⟩ := gather_both hl hu hN hWl hW ho hq d (i + 1) n m (out ++ [W.getD c []]) (by omega) (by omega) (by omega) (by omega) (by rw [List.length_append, List.length_singleton, hol]) (by
        intro w hw
        rcases List.mem_append.1 hw with hw | hw
        · exact how w hw
        · rw [List.mem_singleton] at hw
          subst hw
          exact hW _ (getD_mem.2 ⟨c, by omega, rfl⟩))
      exact ⟨L, q', e, h1.trans g1, h2.trans g2, g3⟩

abbrev dcR : List RK := [RK.own 9 Ty.str, RK.v (Ty.int IntKind.i64), RK.v (Ty.int IntKind.i64)]
theorem decode_both {b : List Int} (hb : okB b) (hl : b.length ≤ 100000000) (off : Int) (hoff1 : -9223372036854775808 ≤ off) {n : Int} (hn : n ≤ 300 ∨ 65536 < n) :
    ∃ (L : List (List Int)) (q' e : Nat), F24.run wdA dcR 4000000 (b, off, n, ()) = some ((L, ((q' : Int), ((e : Int), ()))), ()) ∧ F25.run wdA dcR 4000000 (b, off, n, ()) = some ((L, ((q' : Int), ((e : Int), ()))), ()) ∧ L.length ≤ 300 := by
  rw [show F24.run wdA dcR 4000000 (b, off, n, ()) = _ from F24_run _ _ _ _, show F25.run wdA dcR 4000000 (b, off, n, ()) = _ from F25_run _ _ _ _]
  rw [show F24c1 4000000 b off n = _ from F24c1_eq 3999999 _ _ _, show F25c1 4000000 b off n = _ from F25c1_eq 3999999 _ _ _]
  by_cases h0 : off < 0
  · rw [decide_eq_true h0, cond_true, cond_true]
    exact ⟨[], 0, 1, rfl, rfl, by simp⟩
  · rw [decide_eq_false h0, cond_false, cond_false]
    by_cases h1 : (b.length : Int) < off
    · rw [decide_eq_true h1, cond_true, cond_true]
      exact ⟨[], 0, 1, rfl, rfl, by simp⟩
    · rw [decide_eq_false h1, cond_false, cond_false]
      by_cases h2 : n < 0
      · rw [decide_eq_true h2, cond_true, cond_true]
        exact ⟨[], 0, 1, rfl, rfl, by simp⟩
      · rw [decide_eq_false h2, cond_false, cond_false]
        by_cases h3 : 65536 < n
        · rw [decide_eq_true h3, cond_true, cond_true]
          exact ⟨[], 0, 1, rfl, rfl, by simp⟩
        · rw [decide_eq_false h3, cond_false, cond_false]
          obtain ⟨N, rfl⟩ := Int.eq_ofNat_of_zero_le (by omega : 0 ≤ n)
          obtain ⟨o, rfl⟩ := Int.eq_ofNat_of_zero_le (by omega : 0 ≤ off)
          have hN : N ≤ 300 := by omega
          have e1 : F24c3 3999999 b (o : Int) N = _ := F24c3_eq 3999998 _ _ _
          have e2 : F25c3 3999999 b (o : Int) N = _ := F25c3_eq 3999998 _ _ _
          obtain ⟨W, q, e, r1, r2, r3, r4⟩ := rwords_run hb (by omega) (o : Int) (N := N) (by omega)
          rw [r1, Option.bind_some] at e1
          rw [r2, Option.bind_some] at e2
          dsimp only at e1 e2
          by_cases he : e = 0
          · subst he
            obtain ⟨w1, w2, w3, w4⟩ := r3 rfl
            rw [eq0, cond_false] at e1 e2
            by_cases hq : q = b.length
            · have m0 : F48.run ckA cdR 4000000 (b, (q : Int), (N : Int), (W.length : Int), ()) = some (([], ((0 : Int), ((2 : Int), ()))), ()) := by
                rw [show F48.run ckA cdR 4000000 (b, (q : Int), (N : Int), (W.length : Int), ()) = _ from F48_run _ _ _ _ _, show F48c1 4000000 b (q : Int) (N : Int) (W.length : Int) = _ from F48c1_eq 3999999 _ _ _ _, decide_eq_true (show (q : Int) = (b.length : Int) by omega), cond_true]
              rw [decide_eq_true (show (q : Int) = (b.length : Int) by omega), cond_true] at e1
              rw [m0, Option.bind_some] at e2
              exact ⟨[], 0, 2, e1, e2, by simp⟩
            · obtain ⟨c, hc, hc8⟩ := hb q (by omega)
              have hc' : b.getD ((q : Int)).toNat 0 = (c : Int) := by rw [Int.toNat_natCast]; exact hc
              rw [hc', decide_eq_false (show ¬ (q : Int) = (b.length : Int) by omega), cond_false, if_pos (show (0 : Int) ≤ (q : Int) by omega), if_pos (show (q : Int) < (b.length : Int) by omega), wrap64_id (z := (q : Int) + 1) (by omega) (by omega), show (q : Int) + 1 = ((q + 1 : Nat) : Int) by omega] at e1
              -- behind the codes
              have fin : ∀ (l : List Int) (q2 e : Nat) (q0 : Int), (e = 0 → q0 = (q2 : Int) ∧ goodC b N (q : Int) l q2) → ∃ (L : List (List Int)) (q' e' : Nat), F24c15 3999998 b o q0 e W l = some ((L, ((q' : Int), ((e' : Int), ()))), ()) ∧ (bif !decide ((e : Int) = 0) then some (([], ((0 : Int), ((e : Int), ()))), ()) else F25c11 3999998 b o q0 0 W l []) = some ((L, ((q' : Int), ((e' : Int), ()))), ()) ∧ L.length ≤ 300 := by
                intro l q2 e q0 hg
                have f1 : F24c15 3999998 b o q0 e W l = _ := F24c15_eq 3999997 _ _ _ _ _ _
                by_cases he : e = 0
                · subst he
                  obtain ⟨rfl, g1, g2, g3, g4⟩ := hg rfl
                  rw [eq0, cond_false] at f1 ⊢
                  obtain ⟨L, q', e', k1, k2, k3⟩ := gather_both (b := b) (off := o) (q := q2) (N := N) (W := W) (l := l) g2 g1 hN (by omega) w2 (by omega) g3 N 0 3999997 3999998 [] (by omega) (by omega) (by omega) (by omega) rfl (fun w hw => by cases hw)
                  rw [g2] at f1
                  exact ⟨L, q', e', f1.trans k1, k2, k3⟩
                · rw [ne0 he, cond_true] at f1 ⊢
                  exact ⟨[], 0, e, f1, rfl, by simp⟩
              by_cases hc0 : c = 0
              · subst hc0
                obtain ⟨l, q2, e, q0, p1, p2, p3⟩ := packed_both hb hl (at_ := q) (N := N) (K := W.length) (by omega) (by omega) (by omega) hc
                rw [show decide (((0 : Nat) : Int) = 0) = true from rfl, cond_true, p1, Option.bind_some] at e1
                rw [p2, Option.bind_some] at e2
                obtain ⟨L, q', e', k1, k2, k3⟩ := fin l q2 e q0 p3
                exact ⟨L, q', e', e1.trans k1, e2.trans k2, k3⟩
              · rw [decide_eq_false (show ¬ (c : Int) = 0 by omega), cond_false] at e1
                by_cases hc1 : c = 1
                · subst hc1
                  obtain ⟨l, q2, e, p1, p2, p3⟩ := runs_both hb hl (at_ := q) (N := N) (K := W.length) (by omega) (by omega) hc
                  rw [show decide (((1 : Nat) : Int) = 1) = true from rfl, cond_true, p1, Option.bind_some] at e1
                  rw [p2, Option.bind_some] at e2
                  obtain ⟨L, q', e', k1, k2, k3⟩ := fin l q2 e q2 (fun h => ⟨rfl, p3.1 h⟩)
                  exact ⟨L, q', e', e1.trans k1, e2.trans k2, k3⟩
                · rw [decide_eq_false (show ¬ (c : Int) = 1 by omega), cond_false] at e1
                  have m1 : F48.run ckA cdR 4000000 (b, (q : Int), (N : Int), (W.length : Int), ()) = some (([], ((0 : Int), ((4 : Int), ()))), ()) := by
                    rw [show F48.run ckA cdR 4000000 (b, (q : Int), (N : Int), (W.length : Int), ()) = _ from F48_run _ _ _ _ _]
                    exact mark_c1 hl (by omega) hc 3999999 (fun _ => rfl) (fun h => absurd h hc0) (fun h => absurd h hc1)
                  rw [m1, Option.bind_some] at e2
                  obtain ⟨L, q', e', k1, k2, k3⟩ := fin [] 0 4 q (fun h => by cases h)
                  have k1' := F24c15_eq 3999997 b o q 4 W []
                  exact ⟨[], 0, 4, e1.trans k1', e2, by simp⟩
          · rw [ne0 he, cond_true] at e1 e2
            exact ⟨[], 0, e, e1, e2, by simp⟩

theorem f6_run (b : List Int) (hb : okB b) (hl : b.length ≤ 3000000) (off n : Int) (hoff : -9223372036854775808 ≤ off) : F6.run [.v (.sl (.int .u8)), .v (.int .i64), .v (.int .i64)] [.v .bool] 4000000 (b, off, n, ()) = some ((true, ()), ()) := by
  rw [show F6.run [.v (.sl (.int .u8)), .v (.int .i64), .v (.int .i64)] [.v .bool] 4000000 (b, off, n, ()) = _ from F6_run _ _ _ _]
  have go : n ≤ 300 ∨ 65536 < n → F6c3 4000000 b off n = some ((true, ()), ()) := by
    intro hn
    obtain ⟨L, q, e, r1, r2, r3⟩ := decode_both hb (by omega) off hoff hn
    rw [show F6c3 4000000 b off n = _ from F6c3_eq 3999999 _ _ _, r1, Option.bind_some, r2, Option.bind_some]
    dsimp only
    rw [decide_eq_true rfl, cond_true, decide_eq_true rfl, cond_true, strings_run (by omega), Option.bind_some, awake_run]
    rfl
  rw [awake_run]
  by_cases h1 : 300 < n
  · rw [decide_eq_true h1, cond_true]
    by_cases h2 : n ≤ 65536
    · simp only [decide_eq_true h2, cond_true, Option.bind_some]
    · rw [decide_eq_false h2, cond_false]
      cases decide ((4000 : Int) < (b.length : Int)) with
      | true => simp only [cond_true, Option.bind_some]
      | false =>
        rw [cond_false]
        exact go (.inr (by omega))
  · rw [decide_eq_false h1, cond_false]
    cases decide ((4000 : Int) < (b.length : Int)) with
    | true => simp only [cond_true, Option.bind_some]
    | false =>
      rw [cond_false]
      exact go (.inl (by omega))

theorem law6 (x : HIn NN.ρ [.v (.sl (.int .u8)), .v (.int .i64), .v (.int .i64)]) (hm : ∀ k, measI k [.v (.sl (.int .u8)), .v (.int .i64), .v (.int .i64)] x ≤ 1048576) (ho : ∀ k, okI k [.v (.sl (.int .u8)), .v (.int .i64), .v (.int .i64)] x) :
    ∃ o, F6.run [.v (.sl (.int .u8)), .v (.int .i64), .v (.int .i64)] [.v .bool] 4000000 x = some ((true, ()), o) := by
  obtain ⟨b, off, n, u⟩ := x
  have h := hm 0
  have h1 := sumL_ge5 (measT (measK NN 0) (.int .u8)) (fun x => Nat.le_refl _) b
  have h2 : measI 0 [.v (.sl (.int .u8)), .v (.int .i64), .v (.int .i64)] (b, off, n, u) = (sumL (measT (measK NN 0) (.int .u8)) b + 1) + (1 + (1 + 0)) := rfl
  obtain ⟨o1, o2, o3, _⟩ := ho 0
  have hb : ∀ x ∈ b, 0 ≤ x ∧ x < 256 := fun x hx => by
    have h3 : (Lit.int .u8 x).wf = true := o1 x hx
    simp [Lit.wf, IntKind.min, IntKind.max, IntKind.bits, IntKind.signed] at h3
    exact ⟨h3.1, Int.lt_of_le_of_lt h3.2 (by decide)⟩
  have ho2 : (Lit.int .i64 off).wf = true := o2
  have ho3 : -9223372036854775808 ≤ off := by
    simp [Lit.wf, IntKind.min, IntKind.max, IntKind.bits, IntKind.signed] at ho2
    exact ho2.1
  exact ⟨(), f6_run b (okB_of hb) (by omega) off n ho3⟩

end Go.Proofs.Try
