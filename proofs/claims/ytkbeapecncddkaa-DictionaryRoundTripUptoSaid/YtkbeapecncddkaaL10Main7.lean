/- Law 10: 'DictionaryRoundTrip' returns true. -/
import Derived.Test.YtkbeapecncddkaaL10Trip
set_option linter.unusedVariables false
set_option linter.unusedSimpArgs false
namespace Go.Proofs.Try
open Go.Eng

/-! Runs. -/
theorem snoc_of {α : Type} {l : List α} (h : 0 < l.length) : ∃ init r, l = init ++ [r] := by
  have hne : l ≠ [] := fun e => by rw [e] at h; simp at h
  exact ⟨l.dropLast, l.getLast hne, (List.dropLast_concat_getLast hne).symm⟩
theorem expT_app : ∀ (a c : List Run), expT (a ++ c) = expT a ++ expT c
  | [], c => rfl
  | r :: a, c => by rw [List.cons_append, expT, expT, expT_app a c, List.append_assoc]
theorem expT_step {out : List Run} {v : Int} (hc : ∀ r ∈ out, 1 ≤ r.count) : expT (runStep out v) = expT out ++ [v] := by
  unfold runStep
  by_cases h : 0 < out.length ∧ (out.getD (out.length - 1) rz).value = v
  · rw [if_pos h]
    obtain ⟨init, r, rfl⟩ := snoc_of h.1
    have hl : (init ++ [r]).length - 1 = init.length := by simp
    have hg : (init ++ [r]).getD init.length rz = r := by rw [getD_app, if_neg (by omega), if_pos rfl]
    have hr := hc r (by simp)
    have hv := h.2
    rw [hl, hg] at hv ⊢
    rw [List.set_append_right _ _ (Nat.le_refl _), Nat.sub_self, List.set_cons_zero, expT_app, expT_app, List.append_assoc]
    congr 1
    simp only [expT, List.append_nil]
    rw [show (r.count + 1).toNat = r.count.toNat + 1 by omega, List.replicate_succ', hv]
  · rw [if_neg h, expT_app]
    rfl
theorem Dist_set {init : List Run} {r z : Run} (h : Dist (init ++ [r])) (hv : z.value = r.value) : Dist (init ++ [z]) := by
  intro j h0 hj
  have := h j h0 (by simpa using hj)
  rw [getD_app, getD_app] at this ⊢
  rw [List.length_append, List.length_singleton] at hj
  by_cases h1 : j < init.length
  · rw [if_pos h1, if_pos (by omega)] at this ⊢
    exact this
  · rw [if_neg h1, if_pos (by omega), if_pos (by omega)] at this ⊢
    rw [hv]
    exact this
theorem Dist_step {out : List Run} {v : Int} (h : Dist out) : Dist (runStep out v) := by
  unfold runStep
  by_cases hc : 0 < out.length ∧ (out.getD (out.length - 1) rz).value = v
  · rw [if_pos hc]
    obtain ⟨init, r, rfl⟩ := snoc_of hc.1
    have hl : (init ++ [r]).length - 1 = init.length := by simp
    have hg : (init ++ [r]).getD init.length rz = r := by rw [getD_app, if_neg (by omega), if_pos rfl]
    rw [hl, hg, List.set_append_right _ _ (Nat.le_refl _), Nat.sub_self, List.set_cons_zero]
    exact Dist_set h rfl
  · rw [if_neg hc]
    exact Dist_snoc h (fun h0 e => hc ⟨h0, e.symm⟩)
theorem runs_facts {l : List Int} : ∀ i, i ≤ l.length → expT (runsT (l.take i)) = l.take i ∧ Dist (runsT (l.take i))
  | 0, _ => ⟨rfl, fun j h0 hj => by simp [runsT] at hj⟩
  | i + 1, hi => by
    obtain ⟨h1, h2⟩ := runs_facts (l := l) i (by omega)
    have ok := runsOk (l := l) i (by omega)
    rw [runs_take (by omega)]
    refine ⟨?_, Dist_step h2⟩
    rw [expT_step (fun r hr => by
      obtain ⟨j, hj, rfl⟩ := List.mem_iff_getElem.1 hr
      have := (ok.cnt j hj).1
      rwa [List.getD_eq_getElem?_getD, List.getElem?_eq_getElem hj] at this), h1, List.take_succ_eq_append_getElem (by omega), List.getD_eq_getElem?_getD, List.getElem?_eq_getElem (by omega)]
    rfl

theorem runsB_split {l : List Run} : ∀ i, i ≤ l.length → runsB l 0 = runsB (l.take i) 0 ++ runsB (l.drop i) (lastV l i) := by
  have key : ∀ (a c : List Run) (v : Int), runsB (a ++ c) v = runsB a v ++ runsB c (if a.length = 0 then v else (a.getD (a.length - 1) rz).value) := by
    intro a
    induction a with
    | nil => intro c v; rfl
    | cons r a ih =>
      intro c v
      have e : (if (r :: a).length = 0 then v else ((r :: a).getD ((r :: a).length - 1) rz).value) = (if a.length = 0 then r.value else (a.getD (a.length - 1) rz).value) := by
        rw [if_neg (by rw [List.length_cons]; omega)]
        cases a with
        | nil => rfl
        | cons x y =>
          rw [if_neg (by rw [List.length_cons]; omega)]
          rfl
      rw [List.cons_append, runsB, runsB, ih, e, List.append_assoc, List.append_assoc, List.append_assoc]
  intro i hi
  have h := key (l.take i) (l.drop i) 0
  rw [List.take_append_drop] at h
  rw [h]
  congr 2
  unfold lastV
  rw [List.length_take, Nat.min_eq_left hi]
  by_cases h0 : i = 0
  · rw [if_pos h0, if_pos h0]
  · rw [if_neg h0, if_neg h0, List.getD_eq_getElem?_getD, List.getElem?_take_of_lt (by omega), ← List.getD_eq_getElem?_getD]

theorem zz_mod {d : Int} : (if zz d % 2 = 0 then ((zz d / 2 : Nat) : Int) else -((zz d / 2 : Nat) : Int) - 1) = d := by
  unfold zz
  by_cases h : 0 ≤ d
  · rw [if_pos h, if_pos (by omega)]; omega
  · rw [if_neg h, if_neg (by omega)]; omega

theorem rle_at {b P R : List Int} {l : List Run} (hl : b.length ≤ 4000000000) (hb : b = P ++ runsB l 0 ++ R) (hok : okR l) (hd : Dist l) (hs : cntSum l ≤ 65536) (hc : okC l) : ∀ (d i n : Nat), l.length - i = d → i ≤ l.length → 3 * d + 2 < n →
    F63c9 n b ((P.length + (runsB (l.take i) 0).length : Nat) : Int) 0 (lastV l i) (cntSum (l.take i)) l.length i (l.take i) = some ((l, (((P.length + (runsB l 0).length : Nat) : Int), ((0 : Int), ()))), ())
  | 0, i, n, hdd, hi, hn => by
    obtain ⟨n, rfl⟩ : ∃ n', n = n' + 2 := ⟨n - 2, by omega⟩
    rw [List.take_of_length_le (by omega), F63c9_eq, decide_eq_false (by omega), cond_false, F63c24_eq]
    rfl
  | d + 1, i, n, hdd, hi, hn => by
    obtain ⟨n, rfl⟩ : ∃ n', n = n' + 3 := ⟨n - 3, by omega⟩
    have hlt : i < l.length := by omega
    have hll := cntSum_len hc
    obtain ⟨⟨a1, a2⟩, a3, a4⟩ := hok i hlt
    obtain ⟨k1, k2⟩ := okC_get hc hlt
    have hlv : 0 ≤ lastV l i ∧ lastV l i < 1000000000 := by
      unfold lastV
      by_cases h0 : i = 0
      · rw [if_pos h0]; omega
      · rw [if_neg h0]; exact (hok (i - 1) (by omega)).1
    have hz := zz_lt (d := (l.getD i rz).value - lastV l i) (by omega) (by omega)
    have hsp := runsB_split (l := l) i hi
    have hdr := drop_run hlt
    rw [hdr, runsB] at hsp
    have hb1 : b = (P ++ runsB (l.take i) 0) ++ vEnc (zz ((l.getD i rz).value - lastV l i)) ++ (vEnc (l.getD i rz).count.toNat ++ runsB (l.drop (i + 1)) (l.getD i rz).value ++ R) := by rw [hb, hsp]; simp only [List.append_assoc]
    have hb2 : b = (P ++ runsB (l.take i) 0 ++ vEnc (zz ((l.getD i rz).value - lastV l i))) ++ vEnc (l.getD i rz).count.toNat ++ (runsB (l.drop (i + 1)) (l.getD i rz).value ++ R) := by rw [hb1]; simp only [List.append_assoc]
    have d1 := dec_at hl hb1 hz
    have d2 := dec_at hl hb2 (by omega)
    simp only [List.length_append] at d1 d2
    have hsum0 : 0 ≤ cntSum (l.take i) := by
      have := cntSum_len (l := l.take i) (fun r hr => hc r (List.mem_of_mem_take hr))
      omega
    have htk : l.take (i + 1) = l.take i ++ [l.getD i rz] := by rw [List.take_succ_eq_append_getElem hlt, List.getD_eq_getElem?_getD, List.getElem?_eq_getElem hlt]; rfl
    have hsum1 : cntSum (l.take (i + 1)) = cntSum (l.take i) + (l.getD i rz).count := by rw [htk, cntSum_snoc]
    have hsum2 : cntSum (l.take (i + 1)) ≤ 65536 := by
      have app : ∀ a c : List Run, cntSum (a ++ c) = cntSum a + cntSum c := by
        intro a
        induction a with
        | nil => intro c; simp [cntSum]
        | cons r a ih => intro c; rw [List.cons_append, cntSum, cntSum, ih]; omega
      have h := app (l.take (i + 1)) (l.drop (i + 1))
      rw [List.take_append_drop] at h
      have := cntSum_len (okC_drop hc (i + 1))
      omega
    have hx : ¬ (zz ((l.getD i rz).value - lastV l i) = 0 ∧ 0 < i) := by
      rintro ⟨h1, h0⟩
      have h2 := hd i h0 hlt
      have h3 : lastV l i = (l.getD (i - 1) rz).value := by unfold lastV; rw [if_neg (by omega)]
      have h4 := zz_mod (d := (l.getD i rz).value - lastV l i)
      rw [h1] at h4
      have h4 : (0 : Int) = (l.getD i rz).value - lastV l i := h4
      rw [h3] at h4
      exact h2 (by omega)
    obtain ⟨T, hT⟩ : ∃ T : Nat, cntSum (l.take i) = (T : Int) := ⟨(cntSum (l.take i)).toNat, by omega⟩
    obtain ⟨z, _, z1, _, z3⟩ := unzig_same hz
    rw [zz_mod] at z3
    subst z3
    have g1 := p9_go (k := n + 2) (total := T) (last := lastV l i) (out := l.take i) hlt d1 hx
    have g2 := p16_go (k := n) (cnt := l.length) (total := T) (i := i) (last := lastV l i) (out := l.take i) (by omega) (by omega) (by rw [List.length_take]; omega) d2 (by omega) z1
    rw [hT, g1, g2, wrap64_id (z := lastV l i + ((l.getD i rz).value - lastV l i)) (by omega) (by omega), show lastV l i + ((l.getD i rz).value - lastV l i) = (l.getD i rz).value by omega]
    have ih := rle_at hl hb hok hd hs hc d (i + 1) n (by omega) (by omega) (by omega)
    have e1 : lastV l (i + 1) = (l.getD i rz).value := by unfold lastV; rw [if_neg (by omega)]; rfl
    have e2 : (runsB (l.take (i + 1)) 0).length = (runsB (l.take i) 0).length + ((vEnc (zz ((l.getD i rz).value - lastV l i))).length + (vEnc (l.getD i rz).count.toNat).length) := by
      have h1 := runsB_split (l := l) (i + 1) (by omega)
      rw [e1] at h1
      have h2 := congrArg List.length (h1.symm.trans hsp)
      simp only [List.length_append] at h2
      omega
    rw [e1, hsum1, hT, e2, htk] at ih
    rw [show ((T + (l.getD i rz).count.toNat : Nat) : Int) = (T : Int) + (l.getD i rz).count by omega, show ((P.length + (runsB (l.take i) 0).length + (vEnc (zz ((l.getD i rz).value - lastV l i))).length + (vEnc (l.getD i rz).count.toNat).length : Nat) : Int) = ((P.length + ((runsB (l.take i) 0).length + ((vEnc (zz ((l.getD i rz).value - lastV l i))).length + (vEnc (l.getD i rz).count.toNat).length)) : Nat) : Int) by omega]
    have e3 : ({ value := (l.getD i rz).value, count := (((l.getD i rz).count.toNat : Nat) : Int) } : Run) = l.getD i rz := by
      rw [show (((l.getD i rz).count.toNat : Nat) : Int) = (l.getD i rz).count by omega]
    rw [e3]
    exact ih

/-- The runs of codes, read. -/
theorem rruns_at {b P R : List Int} {l : List Run} (hl : b.length ≤ 4000000000) (hb : b = P ++ rleT l ++ R) (hok : okR l) (hd : Dist l) (hs : cntSum l ≤ 65536) (hc : okC l) :
    F63.run decA rdR 4000000 (b, (P.length : Int), ()) = some ((l, (((P.length + (rleT l).length : Nat) : Int), ((0 : Int), ()))), ()) := by
  have hll := cntSum_len hc
  rw [show F63.run decA rdR 4000000 (b, (P.length : Int), ()) = _ from F63_run _ _ _, show F63c1 4000000 b (P.length : Int) = _ from F63c1_eq 3999999 _ _]
  have hb1 : b = P ++ vEnc l.length ++ (runsB l 0 ++ R) := by rw [hb, rleT]; simp only [List.append_assoc]
  have hb2 : b = (P ++ vEnc l.length) ++ runsB l 0 ++ R := by rw [hb, rleT]; simp only [List.append_assoc]
  rw [dec_at hl hb1 (by omega), Option.bind_some]
  dsimp only
  rw [show (!decide ((0 : Int) = 0)) = false from rfl, cond_false, decide_eq_false (show ¬ (65536 : Int) < (l.length : Int) by omega), cond_false, wrap64_id (z := (l.length : Int)) (by omega) (by omega)]
  have := rle_at hl hb2 hok hd hs hc l.length 0 3999999 (by omega) (by omega) (by omega)
  rw [List.take_zero, show runsB [] 0 = [] from rfl, List.length_nil, Nat.add_zero, List.length_append] at this
  rw [rleT, List.length_append, ← Nat.add_assoc]
  exact this

theorem codes_words {l : List (List Int)} {i : Nat} (h : i < l.length) : ∃ v : Nat, (codes l).getD i 0 = (v : Int) ∧ v < (words l).length ∧ (words l).getD v [] = l.getD i [] ∧ fnd (words l) (l.getD i []) = ((v : Int), true) := by
  have hm : l.getD i [] ∈ words l := (mem_words l _).2 (getD_mem.2 ⟨i, h, rfl⟩)
  obtain ⟨k, hk, hke⟩ := getD_mem.1 hm
  have hf : fnd (words l) (l.getD i []) = ((k : Int), true) := by
    have := fndF_hit (words l) 0 k hk hke (fun j hj e => by
      have := words_rising l j k hj hk
      rw [e, hke, strLt_irrefl] at this
      cases this)
    rwa [Nat.zero_add] at this
  refine ⟨k, ?_, hk, hke, hf⟩
  rw [codes, List.getD_eq_getElem?_getD, List.getElem?_map, List.getElem?_eq_getElem h]
  show (fnd (words l) l[i]).1 = _
  have : l.getD i [] = l[i] := by rw [List.getD_eq_getElem?_getD, List.getElem?_eq_getElem h]; rfl
  rw [← this, hf]

theorem gather_at {b : List Int} {off q : Nat} {l : List (List Int)} (hl : l.length ≤ 300) (how : ∀ w ∈ l, w.length ≤ 4096) (ho : off ≤ q) (hq : q ≤ b.length) (he : List.map Eng.byteOf (encT l) = List.map Eng.byteOf (List.drop off (List.take q b))) : ∀ (d i n : Nat), l.length - i = d → i ≤ l.length → d < n →
    F24c19 n b off q l.length i (words l) (l.take i) (codes l) = some ((l, ((q : Int), ((0 : Int), ()))), ())
  | 0, i, n, hd, hi, hn => by
    obtain ⟨n, rfl⟩ : ∃ n', n = n' + 1 := ⟨n - 1, by omega⟩
    rw [List.take_of_length_le (by omega)]
    have h1 := F24c19_eq n b off q l.length i (words l) l (codes l)
    rw [decide_eq_false (show ¬ (i : Int) < (l.length : Int) by omega), cond_false, enc_run hl how, Option.bind_some, if_pos (show (0 : Int) ≤ (off : Int) by omega), if_pos (show (off : Int) ≤ (q : Int) by omega), if_pos (show (q : Int) ≤ (b.length : Int) by omega)] at h1
    dsimp only at h1
    have he' : List.map Eng.byteOf (encT l) = List.map Eng.byteOf (List.drop ((off : Int)).toNat (List.take ((q : Int)).toNat b)) := by rw [Int.toNat_natCast, Int.toNat_natCast]; exact he
    rw [decide_eq_true he', Bool.not_true, cond_false] at h1
    exact h1
  | d + 1, i, n, hd, hi, hn => by
    obtain ⟨n, rfl⟩ : ∃ n', n = n' + 1 := ⟨n - 1, by omega⟩
    have hlt : i < l.length := by omega
    have hwl := words_len l
    have hcl := codes_len l
    obtain ⟨c, hc, hcw, hcg, _⟩ := codes_words hlt
    have hc' : (codes l).getD ((i : Int)).toNat 0 = (c : Int) := by rw [Int.toNat_natCast]; exact hc
    have h1 := F24c19_eq n b off q l.length i (words l) (l.take i) (codes l)
    rw [hc', u64_wrap_id (z := ((words l).length : Int)) (by omega) (by omega), Int.toNat_natCast, decide_eq_true (show (i : Int) < (l.length : Int) by omega), cond_true, if_pos (show (0 : Int) ≤ (i : Int) by omega), if_pos (show (i : Int) < ((codes l).length : Int) by omega), decide_eq_false (show ¬ ((words l).length : Int) ≤ (c : Int) by omega), cond_false, if_pos (show (0 : Int) ≤ (c : Int) by omega), if_pos (show (c : Int) < ((words l).length : Int) by omega), if_pos (show (l.take i).length + 1 ≤ lim by simp only [List.length_take, lim]; omega), wrap64_id (z := (i : Int) + 1) (by omega) (by omega), hcg] at h1
    have ih := gather_at hl how ho hq he d (i + 1) n (by omega) (by omega) (by omega)
    have e1 : l.take (i + 1) = l.take i ++ [l.getD i []] := by rw [List.take_succ_eq_append_getElem hlt, List.getD_eq_getElem?_getD, List.getElem?_eq_getElem hlt]; rfl
    rw [e1] at ih
    exact h1.trans ih

/-- Decoding what was encoded. -/
theorem decode_at {P R : List Int} {l : List (List Int)} (hl : l.length ≤ 300) (how : ∀ w ∈ l, w.length ≤ 4096 ∧ ∀ x ∈ w, 0 ≤ x ∧ x < 256) (hlen : (P ++ encT l ++ R).length ≤ 100000000) :
    F24.run wdA dcR 4000000 (P ++ encT l ++ R, (P.length : Int), (l.length : Int), ()) = some ((l, (((P.length + (encT l).length : Nat) : Int), ((0 : Int), ()))), ()) := by
  have hwl := words_len l
  have hcl := codes_len l
  generalize hb : P ++ encT l ++ R = b at *
  have hble : P.length + (encT l).length ≤ b.length := by rw [← hb]; simp only [List.length_append]; omega
  have hW : ∀ w ∈ words l, w.length ≤ 4096 ∧ ∀ x ∈ w, 0 ≤ x ∧ x < 256 := fun w hw => how w ((mem_words l w).1 hw)
  rw [show F24.run wdA dcR 4000000 (b, (P.length : Int), (l.length : Int), ()) = _ from F24_run _ _ _ _, show F24c1 4000000 b (P.length : Int) (l.length : Int) = _ from F24c1_eq 3999999 _ _ _]
  rw [decide_eq_false (show ¬ (P.length : Int) < 0 by omega), cond_false, decide_eq_false (show ¬ (b.length : Int) < (P.length : Int) by omega), cond_false, decide_eq_false (show ¬ (l.length : Int) < 0 by omega), cond_false, decide_eq_false (show ¬ (65536 : Int) < (l.length : Int) by omega), cond_false]
  have e1 : F24c3 3999999 b (P.length : Int) (l.length : Int) = _ := F24c3_eq 3999998 _ _ _
  have hb1 : b = P ++ (vEnc (words l).length ++ wordsB (words l)) ++ (tailT l ++ R) := by rw [← hb, encT]; simp only [List.append_assoc]
  rw [rwords_at (by omega) hb1 (words_rising l) hW hwl (by omega), Option.bind_some] at e1
  dsimp only at e1
  have hel : (encT l).length = (vEnc (words l).length).length + (wordsB (words l)).length + (tailT l).length := by rw [encT, List.length_append, List.length_append]
  have fin : F24c15 3999998 b (P.length : Int) ((P.length + (encT l).length : Nat) : Int) (0 : Int) (words l) (codes l) = some ((l, (((P.length + (encT l).length : Nat) : Int), ((0 : Int), ()))), ()) := by
    have f1 := F24c15_eq 3999997 b (P.length : Int) ((P.length + (encT l).length : Nat) : Int) (0 : Int) (words l) (codes l)
    rw [show (!decide ((0 : Int) = 0)) = false from rfl, cond_false, hcl] at f1
    have hdm : List.drop P.length (List.take (P.length + (encT l).length) b) = encT l := by rw [← hb]; exact drop_mid
    have g := gather_at (b := b) (off := P.length) (q := P.length + (encT l).length) hl (fun w hw => (how w hw).1) (by omega) hble (by rw [hdm]) l.length 0 3999997 (by omega) (by omega) (by omega)
    exact f1.trans g
  generalize hA : P.length + (vEnc (words l).length).length + (wordsB (words l)).length = A at *
  have mark : ∀ (m : Int) (t : List Int), tailT l = m :: t → b.getD A 0 = m ∧ A < b.length ∧ b = (P ++ (vEnc (words l).length ++ wordsB (words l)) ++ [m]) ++ t ++ R ∧ (P ++ (vEnc (words l).length ++ wordsB (words l)) ++ [m]).length = A + 1 := by
    intro m t ht
    have h := get_app (b := b) (pre := P ++ (vEnc (words l).length ++ wordsB (words l))) (x := m) (post := t ++ R) (by rw [hb1, ht]; rfl)
    have hlA : (P ++ (vEnc (words l).length ++ wordsB (words l))).length = A := by rw [← hA]; simp only [List.length_append]; omega
    rw [hlA] at h
    exact ⟨h.2, h.1, by rw [hb1, ht]; simp, by rw [List.length_append, hlA]; rfl⟩
  have htail : (∃ t, tailT l = 0 :: t) ∨ (∃ t, tailT l = 1 :: t) := by
    unfold tailT
    split
    · exact .inr ⟨_, rfl⟩
    · exact .inl ⟨_, rfl⟩
  have hAlt : A < b.length := by
    rcases htail with ⟨t, ht⟩ | ⟨t, ht⟩
    · exact (mark _ _ ht).2.1
    · exact (mark _ _ ht).2.1
  rw [show (!decide ((0 : Int) = 0)) = false from rfl, cond_false, decide_eq_false (show ¬ (A : Int) = (b.length : Int) by omega), cond_false, if_pos (show (0 : Int) ≤ (A : Int) by omega), if_pos (show (A : Int) < (b.length : Int) by omega), wrap64_id (z := (A : Int) + 1) (by omega) (by omega)] at e1
  rw [e1]
  clear e1
  unfold tailT at mark hel
  by_cases hlt : (rleT (runsT (codes l))).length < (packT (codes l) (cw (words l).length)).length
  · rw [if_pos hlt] at mark hel
    obtain ⟨m1, m2, m3, m4⟩ := mark _ _ rfl
    have m1' : b.getD (Int.toNat (A : Int)) 0 = 1 := by rw [Int.toNat_natCast]; exact m1
    obtain ⟨hok, hrl⟩ := runs_okR (l := l) (by omega)
    obtain ⟨f1, f2⟩ := runs_facts (l := codes l) (codes l).length (Nat.le_refl _)
    rw [List.take_length] at f1 f2
    have hcC : okC (runsT (codes l)) := fun r hr => by
      have h := runsOk (l := codes l) (codes l).length (Nat.le_refl _)
      rw [List.take_length] at h
      obtain ⟨j, hj, rfl⟩ := List.mem_iff_getElem.1 hr
      have := h.cnt j hj
      rw [List.getD_eq_getElem?_getD, List.getElem?_eq_getElem hj] at this
      have h1 : 1 ≤ (runsT (codes l))[j].count ∧ (runsT (codes l))[j].count ≤ (codes l).length := this
      omega
    have hsum : cntSum (runsT (codes l)) = l.length := by
      rw [← expT_len hcC, f1, hcl]
    have hr := rruns_at (by omega) m3 hok f2 (by omega) hcC
    rw [m4] at hr
    obtain ⟨x, e, x1, x2, x3, x4⟩ := expand_run hcC (by omega)
    have he := x4 f2 (by omega)
    subst he
    obtain ⟨x5, x6⟩ := x3 rfl
    rw [f1] at x5
    subst x5
    have hu : (codes l).map IntKind.u64.wrap = codes l := by
      apply List.ext_getElem?
      intro i
      rw [List.getElem?_map]
      by_cases hi : i < (codes l).length
      · obtain ⟨v, v1, v2⟩ := codes_get (l := l) (i := i) (by omega)
        rw [List.getElem?_eq_getElem hi]
        rw [List.getD_eq_getElem?_getD, List.getElem?_eq_getElem hi] at v1
        have v1 : (codes l)[i] = (v : Int) := v1
        rw [v1, Option.map_some, u64_wrap_id (by omega) (by omega)]
      · rw [List.getElem?_eq_none (by omega)]; rfl
    have hrun : F46.run wdA cdR 4000000 (b, ((A + 1 : Nat) : Int), (l.length : Int), ()) = some ((codes l, (((A + 1 + (rleT (runsT (codes l))).length : Nat) : Int), ((0 : Int), ()))), ()) := by
      have h1 : F46c1 4000000 b ((A + 1 : Nat) : Int) (l.length : Int) = _ := F46c1_eq 3999999 _ _ _
      rw [hr] at h1
      erw [Option.bind_some] at h1
      dsimp only at h1
      rw [show (!decide ((0 : Int) = 0)) = false from rfl, cond_false, x1] at h1
      erw [Option.bind_some] at h1
      dsimp only at h1
      rw [eq0, cond_false, decide_eq_true (show ((codes l).length : Int) = (l.length : Int) by omega), Bool.not_true, cond_false] at h1
      obtain ⟨i1, _⟩ := u64s_c11 (x := codes l) (q := ((A + 1 + (rleT (runsT (codes l))).length : Nat) : Int)) (by omega) 3999999 3999999 0 (by omega) (by omega) (by omega)
      rw [hu] at i1
      rw [show F46.run wdA cdR 4000000 (b, ((A + 1 : Nat) : Int), (l.length : Int), ()) = _ from F46_run _ _ _ _]
      exact h1.trans i1
    rw [m1', show decide ((1 : Int) = 0) = false from rfl, cond_false, show decide ((1 : Int) = 1) = true from rfl, cond_true, show (A : Int) + 1 = ((A + 1 : Nat) : Int) by omega, hrun, Option.bind_some]
    dsimp only
    rw [List.length_cons] at hel
    rw [show A + 1 + (rleT (runsT (codes l))).length = P.length + (encT l).length by omega]
    exact fin
  · rw [if_neg hlt] at mark hel
    obtain ⟨m1, m2, m3, m4⟩ := mark _ _ rfl
    have m1' : b.getD (Int.toNat (A : Int)) 0 = 0 := by rw [Int.toNat_natCast]; exact m1
    have hp := packed_at (l := codes l) (K := (words l).length) (by omega) m3 (by omega) (by omega) (fun i hi => by
      obtain ⟨v, v1, v2, _⟩ := codes_words (l := l) (i := i) (by omega)
      refine ⟨v, v1, ?_⟩
      unfold cw
      rw [if_neg (by omega)]
      exact Nat.lt_of_le_of_lt (by omega : v ≤ (words l).length - 1) (lt_bitlen _))
    rw [m4, hcl] at hp
    rw [m1', show decide ((0 : Int) = 0) = true from rfl, cond_true, show (A : Int) + 1 = ((A + 1 : Nat) : Int) by omega, hp, Option.bind_some]
    dsimp only
    rw [List.length_cons] at hel
    rw [show A + 1 + (packT (codes l) (cw (words l).length)).length = P.length + (encT l).length by omega]
    exact fin

theorem f7_loop {l : List (List Int)} (hl : l.length ≤ 300) : ∀ (n i : Nat), 2 * (l.length - i) + 1 < n → i ≤ l.length → F7c15 n l i (words l) (codes l) = some ((true, ()), ())
  | 0, i, h, _ => by omega
  | 1, i, h, _ => by omega
  | n + 2, i, h, hi => by
    have hwl := words_len l
    have hcl := codes_len l
    have h1 := F7c15_eq (n + 1) l i (words l) (codes l)
    by_cases hlt : i < l.length
    · obtain ⟨c, hc, hcw, hcg, hcf⟩ := codes_words hlt
      have hc' : (codes l).getD ((i : Int)).toNat 0 = (c : Int) := by rw [Int.toNat_natCast]; exact hc
      have hg' : l.getD ((i : Int)).toNat [] = l.getD i [] := by rw [Int.toNat_natCast]
      have hcg' : (words l).getD ((c : Int)).toNat [] = l.getD i [] := by rw [Int.toNat_natCast]; exact hcg
      rw [hc', hg', hcg', decide_eq_true (show (i : Int) < (l.length : Int) by omega), cond_true, if_pos (show (0 : Int) ≤ (i : Int) by omega), if_pos (show (i : Int) < ((codes l).length : Int) by omega), decide_eq_false (show ¬ (c : Int) < 0 by omega), cond_false, if_pos (show (0 : Int) ≤ (i : Int) by omega), if_pos (show (i : Int) < ((codes l).length : Int) by omega), decide_eq_false (show ¬ ((words l).length : Int) ≤ (c : Int) by omega), cond_false, if_pos (show (0 : Int) ≤ (i : Int) by omega), if_pos (show (i : Int) < ((codes l).length : Int) by omega), if_pos (show (0 : Int) ≤ (c : Int) by omega), if_pos (show (c : Int) < ((words l).length : Int) by omega), if_pos (show (0 : Int) ≤ (i : Int) by omega), if_pos (show (i : Int) < (l.length : Int) by omega), decide_eq_true rfl, Bool.not_true, cond_false] at h1
      rw [h1]
      have h2 := F7c19_eq n l i (words l) (codes l)
      rw [hc', hg', if_pos (show (0 : Int) ≤ (i : Int) by omega), if_pos (show (i : Int) < (l.length : Int) by omega), find_run (words_rising l) (by omega), hcf, Option.bind_some] at h2
      dsimp only at h2
      rw [Bool.not_true, cond_false, if_pos (show (0 : Int) ≤ (i : Int) by omega), if_pos (show (i : Int) < ((codes l).length : Int) by omega), decide_eq_true rfl, Bool.not_true, cond_false, wrap64_id (z := (i : Int) + 1) (by omega) (by omega)] at h2
      rw [h2]
      exact f7_loop hl n (i + 1) (by omega) (by omega)
    · rw [decide_eq_false (show ¬ (i : Int) < (l.length : Int) by omega), cond_false, awake_run] at h1
      exact h1

theorem f7_run (l : List (List Int)) (P R : List Int) (hb : ∀ w ∈ l, ∀ x ∈ w, 0 ≤ x ∧ x < 256) (hlen : l.length ≤ 1500000) (hP : P.length ≤ 2000000) (hR : R.length ≤ 2000000) : F7.run [.v (.sl .str), .v (.sl (.int .u8)), .v (.sl (.int .u8))] [.v .bool] 4000000 (l, P, R, ()) = some ((true, ()), ()) := by
  rw [show F7.run [.v (.sl .str), .v (.sl (.int .u8)), .v (.sl (.int .u8))] [.v .bool] 4000000 (l, P, R, ()) = _ from F7_run _ _ _ _]
  obtain ⟨b, h1, h2⟩ := small_run (w := l) (by omega)
  rw [h1, Option.bind_some, awake_run]
  cases b with
  | false => rfl
  | true =>
    obtain ⟨hs, hcs⟩ := h2 rfl
    have hc : ∀ s ∈ l, s.length ≤ 4096 := fun s hs => by
      obtain ⟨j, hj, rfl⟩ := getD_mem.1 hs
      exact hcs j hj
    have hwl := words_len l
    have hcl := codes_len l
    have hel : (encT l).length ≤ 20000000 := by
      have h3 := wordsB_len (W := words l) (fun w hw => hc w ((mem_words l w).1 hw))
      have h4 := vEnc_len10 (x := (words l).length) (by omega)
      obtain ⟨hok, hrl⟩ := runs_okR (l := l) (by omega)
      have h5 := runsB_len (runsT (codes l)) 0 (okR_mem hok) (by omega) (by omega)
      have h6 := vEnc_len10 (x := (runsT (codes l)).length) (by omega)
      have h7 := packT_len (codes l) (cw (words l).length)
      have hcw := cw_le (x := (words l).length) (by omega)
      have h8 : psize (codes l).length (cw (words l).length) ≤ 8388608 := (size_eq (by omega) (by omega)).2
      have h9 : (tailT l).length ≤ 9000000 := by
        unfold tailT
        split
        · rw [List.length_cons, rleT, List.length_append]; omega
        · rw [List.length_cons]; omega
      rw [encT, List.length_append, List.length_append]
      omega
    simp only [Bool.not_true, cond_false]
    rw [enc_run hs hc, Option.bind_some]
    simp only [List.nil_append]
    rw [if_pos (by simp only [lim]; omega), if_pos (by simp only [lim]; omega), if_pos (by simp only [lim, List.length_append]; omega), decode_at hs (fun w hw => ⟨hc w hw, hb w hw⟩) (by simp only [List.length_append]; omega), Option.bind_some]
    dsimp only
    rw [show (!decide ((0 : Int) = 0)) = false from rfl, cond_false, wrap64_id (z := (P.length : Int) + ((encT l).length : Int)) (by omega) (by omega), decide_eq_true (show ((P.length + (encT l).length : Nat) : Int) = (P.length : Int) + ((encT l).length : Int) by omega), Bool.not_true, cond_false, strings_run (a := l) (by omega), Option.bind_some]
    dsimp only
    rw [Bool.not_true, cond_false, show F7c11 4000000 l = _ from F7c11_eq 3999999 _, build_run (by omega), Option.bind_some]
    dsimp only
    obtain ⟨c, c1, c2⟩ := rising_run (w := words l) (by omega)
    rw [c1, c2.2 (words_rising l), Option.bind_some]
    dsimp only
    rw [Bool.not_true, cond_false, decide_eq_true (show ((codes l).length : Int) = (l.length : Int) by omega), Bool.not_true, cond_false, show F7c14 3999999 l (words l) (codes l) = _ from F7c14_eq 3999998 _ _ _]
    exact f7_loop hs 3999998 0 (by omega) (by omega)

theorem law7 (x : HIn NN.ρ [.v (.sl .str), .v (.sl (.int .u8)), .v (.sl (.int .u8))]) (hm : ∀ k, measI k [.v (.sl .str), .v (.sl (.int .u8)), .v (.sl (.int .u8))] x ≤ 1048576) (ho : ∀ k, okI k [.v (.sl .str), .v (.sl (.int .u8)), .v (.sl (.int .u8))] x) :
    ∃ o, F7.run [.v (.sl .str), .v (.sl (.int .u8)), .v (.sl (.int .u8))] [.v .bool] 4000000 x = some ((true, ()), o) := by
  obtain ⟨l, P, R, u⟩ := x
  have h := hm 0
  have h1 := sumL_ge5 (measT (measK NN 0) .str) (fun x => Nat.le_add_left _ _) l
  have h2 := sumL_ge5 (measT (measK NN 0) (.int .u8)) (fun x => Nat.le_refl _) P
  have h3 := sumL_ge5 (measT (measK NN 0) (.int .u8)) (fun x => Nat.le_refl _) R
  have h4 : measI 0 [.v (.sl .str), .v (.sl (.int .u8)), .v (.sl (.int .u8))] (l, P, R, u) = (sumL (measT (measK NN 0) .str) l + 1) + ((sumL (measT (measK NN 0) (.int .u8)) P + 1) + ((sumL (measT (measK NN 0) (.int .u8)) R + 1) + 0)) := rfl
  obtain ⟨o1, _⟩ := ho 0
  exact ⟨(), f7_run l P R (fun w hw x hx => o1 w hw x hx) (by omega) (by omega) (by omega)⟩

end Go.Proofs.Try
