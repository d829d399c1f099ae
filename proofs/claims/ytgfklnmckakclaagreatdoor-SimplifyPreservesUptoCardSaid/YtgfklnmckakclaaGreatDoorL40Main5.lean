/- Law 40: what is known where slots are NULL. -/
import Derived.Test.YtgfklnmckakclaaGreatDoorL40EqR
import Derived.Test.YtgfklnmckakclaaGreatDoorL40Law5
import Derived.Test.YtgfklnmckakclaaGreatDoorL40Main8
set_option linter.unusedVariables false
set_option linter.unusedSimpArgs false
namespace Go.Proofs.Tryz
open Go.Eng

def infB (op : Int) (a b : Known) : Known :=
  if op = 7 then ⟨a.f_null && b.f_null, a.notTrue || b.notTrue, a.notFalse && b.notFalse⟩ else
  if op = 8 then ⟨a.f_null && b.f_null, a.notTrue && b.notTrue, a.notFalse || b.notFalse⟩ else ⟨a.f_null || b.f_null, false, false⟩
def isIn (s : List Int) (x : Int) : Bool := s.any fun y => decide (y = x)
def closeK (k : Known) : Known := bif k.f_null then ⟨k.f_null, true, true⟩ else k
def infNode (s : List Int) (kind op : Int) (v : Val) (slot : Int) (l : List Known) : Known :=
  if kind = 1 then ⟨decide (v.kind = 0), !decide (v = vbool true), !decide (v = vbool false)⟩ else
  if kind = 2 then ⟨isIn s slot, false, false⟩ else
  if kind = 3 then ⟨(l.getD 0 zKnown).f_null, (l.getD 0 zKnown).notFalse, (l.getD 0 zKnown).notTrue⟩ else
  if kind = 4 ∨ kind = 7 then ⟨(l.getD 0 zKnown).f_null, false, false⟩ else
  if kind = 6 then ⟨false, false, (l.getD 0 zKnown).f_null⟩ else
  if kind = 5 then infB op (l.getD 0 zKnown) (l.getD 1 zKnown) else zKnown
mutual
def inf (s : List Int) : Ex → Known
  | ⟨kind, op, v, _, _, _, a, _, _, slot, _⟩ => closeK (infNode s kind op v slot (infL s a))
def infL (s : List Int) : List Ex → List Known
  | [] => []
  | e :: l => inf s e :: infL s l
end
theorem infL_map (s : List Int) : ∀ l, infL s l = l.map (inf s)
  | [] => by rw [infL]; rfl
  | e :: l => by rw [infL, infL_map s l]; rfl
theorem inf_eq (s : List Int) (e : Ex) : inf s e = closeK (infNode s e.kind e.op e.value e.slot (e.args.map (inf s))) := by
  cases e; rw [inf, infL_map]
theorem map_getD {s : List Int} {l : List Ex} {i : Nat} (h : i < l.length) : (l.map (inf s)).getD i zKnown = inf s (l.getD i zEx) := by
  rw [getD_eq (by rw [List.length_map]; exact h), getD_eq h, List.getElem_map]

/-! ## The program's own -/
theorem infB_run (op : Int) (a b : Known) : F79.run [PK.v (Ty.int .i64), PK.v (Ty.nm 5), PK.v (Ty.nm 5)] [RK.v (Ty.nm 5)] 4000000 (op, a, b, ()) = some ((infB op a b, ()), ()) := by
  rw [show F79.run [PK.v (Ty.int .i64), PK.v (Ty.nm 5), PK.v (Ty.nm 5)] [RK.v (Ty.nm 5)] 4000000 (op, a, b, ()) = _ from F79_run _ _ _ _]
  obtain ⟨x, y, z⟩ := a
  obtain ⟨x', y', z'⟩ := b
  unfold infB
  by_cases h7 : op = 7
  · rw [cdt h7, if_pos h7]; cases x <;> cases y <;> cases z <;> rfl
  rw [cdf h7, if_neg h7]
  by_cases h8 : op = 8
  · rw [cdt h8, if_pos h8]; cases x <;> cases y <;> cases z <;> rfl
  rw [cdf h8, if_neg h8]
  cases x <;> rfl
theorem drop_any {s : List Int} {i : Nat} (h : i < s.length) (p : Int → Bool) : (s.drop i).any p = (p (s.getD i 0) || (s.drop (i + 1)).any p) := by
  rw [drop_cons h]; rfl
theorem contains_run {s : List Int} (x : Int) (hs : s.length ≤ 1000000) : F78.run [PK.v (Ty.int .i64).sl, PK.v (Ty.int .i64)] [RK.v Ty.bool] 4000000 (s, x, ()) = some ((isIn s x, ()), ()) := by
  have key : ∃ j : Int, F106.run [PK.v (Ty.int .i64).sl, PK.v (Ty.int .i64)] [RK.v (Ty.int .i64)] 4000000 (s, x, ()) = some ((j, ()), ()) ∧ decide (0 ≤ j) = isIn s x := by
    rw [F106_run]
    obtain ⟨r, e, j, rfl, hj⟩ := loop (fun n i (_ : Unit) => F106c2 n s x (s.length : Nat) i) s.length 1 0 (fun i _ => (s.drop i).any (fun y => decide (y = x)) = isIn s x) (fun r => ∃ j : Int, r = ((j, ()), ()) ∧ decide (0 ≤ j) = isIn s x)
      (fun n _ _ hs => ⟨_, by rw [F106c2_eq, cdf (by omega)], _, rfl, by rw [← hs, List.drop_length]; rfl⟩)
      (fun n i _ hi hs => by
        rw [drop_any hi] at hs
        rw [F106c2_eq, cdt (by omega), gd hi, Int.toNat_natCast, w1 (by omega)]
        by_cases h : s.getD i 0 = x
        · rw [decide_eq_true h.symm]
          exact .inr ⟨_, rfl, _, rfl, by rw [← hs, decide_eq_true h]; simp⟩
        · rw [decide_eq_false (fun e => h e.symm)]
          refine .inl ⟨n, (), Nat.le_refl _, rfl, ?_⟩
          rw [← hs, decide_eq_false h]; simp) s.length 4000000 0 () (by omega) (by omega) (by omega) (by rw [List.drop_zero]; rfl)
    exact ⟨j, e, hj⟩
  obtain ⟨j, e, hj⟩ := key
  rw [F78_run, bnd e, hj]
theorem isIn_run {s : List Int} (x : Int) (hs : s.length ≤ 1000000) : F107.run [PK.v (Ty.int .i64), PK.v (Ty.int .i64).sl] [RK.v Ty.bool] 4000000 (x, s, ()) = some ((isIn s x, ()), ()) := by
  rw [F107_run]
  obtain ⟨r, e, rfl⟩ := loop (fun n i (_ : Unit) => F107c2 n x s i) s.length 1 0 (fun i _ => (s.drop i).any (fun y => decide (y = x)) = isIn s x) (fun r => r = ((isIn s x, ()), ()))
    (fun n _ _ hs => ⟨_, by rw [F107c2_eq, cdf (by omega)], by rw [← hs, List.drop_length]; rfl⟩)
    (fun n i _ hi hs => by
      rw [drop_any hi] at hs
      rw [F107c2_eq, cdt (by omega), gd hi, Int.toNat_natCast, w1 (by omega)]
      by_cases h : s.getD i 0 = x
      · rw [decide_eq_true h]
        exact .inr ⟨_, rfl, by rw [← hs, decide_eq_true h]; simp⟩
      · rw [decide_eq_false h]
        refine .inl ⟨n, (), Nat.le_refl _, rfl, ?_⟩
        rw [← hs, decide_eq_false h]; simp) s.length 4000000 0 () (by omega) (by omega) (by omega) (by rw [List.drop_zero]; rfl)
  exact e
theorem close_run (g : G46) (n : Nat) (a b : Known) : F46c23 g (n + 1) a b = some ((closeK b, ()), ()) := by
  rw [F46c23_eq]; unfold closeK
  cases b.f_null <;> rfl

/-- The number of a node's arguments. -/
theorem WT.ge {ts : List Int} {e : Ex} (h : WT ts e) (hk : e.kind = 7) : 2 ≤ e.args.length := by
  have h1 := h.inv.2.1
  unfold btype at h1
  rw [hk] at h1
  have h2 := (Prod.mk.inj h1).2
  simp only [Bool.and_eq_true, decide_eq_true_eq, List.length_map] at h2
  omega
theorem WT.kinds {ts : List Int} {e : Ex} (h : WT ts e) : 1 ≤ e.kind ∧ e.kind ≤ 9 := by
  have h1 := h.inv.2.1
  by_cases hb : 1 ≤ e.kind ∧ e.kind ≤ 9
  · exact hb
  · exfalso
    unfold btype at h1
    rw [cdf (by omega), cdf (by omega), cdf (by omega), cdf (by omega), cdf (by omega), cdf (by omega), cdf (by omega), cdf (by omega), cdf (by omega)] at h1
    cases (Prod.mk.inj h1).2
theorem inf_node {g : G46} {ts s : List Int} {e : Ex} (hw : WT ts e) (hs : s.length ≤ 1000000) (n : Nat) : F46c8 g (n + 2) s e zKnown (e.args.map (inf s)) = some ((inf s e, ()), ()) := by
  have hk := hw.kinds
  rw [F46c8_eq, inf_eq]
  unfold infNode
  by_cases h1 : e.kind = 1
  · rw [cdt h1, if_pos h1, bnd (is_run e true), bnd (is_run e false), close_run]
    unfold isV
    rw [decide_eq_true h1]; rfl
  rw [cdf h1, if_neg h1]
  by_cases h2 : e.kind = 2
  · rw [cdt h2, if_pos h2, bnd (contains_run _ hs), close_run]
  rw [cdf h2, if_neg h2]
  by_cases h3 : e.kind = 3
  · have := hw.one (.inl h3)
    rw [cdt h3, if_pos h3, List.length_map, if_pos (by omega), if_pos (by omega), if_pos (by omega), close_run]; rfl
  rw [cdf h3, if_neg h3]
  by_cases h4 : e.kind = 4
  · have := hw.one (.inr (.inl h4))
    rw [cdt h4, cdt h4, if_pos (show e.kind = 4 ∨ e.kind = 7 from .inl h4), List.length_map, if_pos (by omega), close_run]; rfl
  rw [cdf h4]
  by_cases h7 : e.kind = 7
  · have := hw.ge h7
    rw [cdt h7, if_pos (show e.kind = 4 ∨ e.kind = 7 from .inr h7), List.length_map, if_pos (by omega), close_run]; rfl
  rw [cdf h7, if_neg (show ¬(e.kind = 4 ∨ e.kind = 7) by omega)]
  by_cases h6 : e.kind = 6
  · have := hw.one (.inr (.inr h6))
    rw [cdt h6, if_pos h6, List.length_map, if_pos (by omega), close_run]; rfl
  rw [cdf h6, if_neg h6]
  by_cases h5 : e.kind = 5
  · have := hw.two h5
    rw [cdt h5, if_pos h5, List.length_map, if_pos (by omega), if_pos (by omega), bnd (infB_run _ _ _), close_run]; rfl
  rw [cdf h5, if_neg h5, close_run]
theorem inf_k {ts s : List Int} (hs : s.length ≤ 1000000) : ∀ (k : Nat) (e : Ex), sz e ≤ k → sz e ≤ 1000000 → WT ts e → r46 k (e, s, ()) = some ((inf s e, ()), ())
  | 0, e, h, _, _ => by have := sz_pos e; omega
  | k + 1, e, h, hz, hw => by
    have hk := hw.kinds
    have hl := len_arg e
    rw [show r46 (k + 1) (e, s, ()) = _ from r46_succ k (e, s, ()), F46_run, show F46c1 (r46 k) 4000000 s e zKnown = _ from F46c1_eq (r46 k) 3999999 s e zKnown, decide_eq_false (by omega), decide_eq_false (by omega), Bool.not_false, ct, ct]
    obtain ⟨r, e1, rfl⟩ := loop (fun n i st => F46c4 (r46 k) n s e.args (e.args.length : Nat) i e zKnown st) e.args.length 1 2 (fun i st => st = (e.args.take i).map (inf s)) (fun r => r = ((inf s e, ()), ()))
      (fun n st hn hst => ⟨_, by
        rw [List.take_length] at hst
        obtain ⟨n, rfl⟩ : ∃ m, n = m + 2 := ⟨n - 2, by omega⟩
        rw [F46c4_eq, cdf (by omega), hst, inf_node hw hs], rfl⟩)
      (fun n i st hi hst => .inl ⟨n, _, Nat.le_refl _, by
        have hm := getD_mem hi zEx
        have hm2 := sz_arg hm
        have : st.length ≤ 1000000 := by rw [hst, List.length_map, List.length_take]; omega
        rw [F46c4_eq, cdt (by omega), gd hi, Int.toNat_natCast, bnd (inf_k hs k _ (by omega) (by omega) (hw.inv.2.2 _ hm)), if_pos (by unfold lim; omega), w1 (by omega)], by
        rw [hst, List.take_succ_eq_append_getElem hi, List.map_append, ← getD_eq hi (d := zEx)]; rfl⟩) e.args.length 3999999 0 [] (by omega) (by omega) (by omega) rfl
    exact e1

/-! ## The reference -/
theorem null_k {ts s : List Int} (hs : s.length ≤ 1000000) : ∀ (k : Nat) (e : Ex), sz e ≤ k → WT ts e → r80 k (e, s, ()) = some (((inf s e).f_null, ()), ())
  | 0, e, h, _ => by have := sz_pos e; omega
  | k + 1, e, h, hw => by
    have hk := hw.kinds
    have cl : ∀ a, (closeK a).f_null = a.f_null := fun a => by unfold closeK; cases h : a.f_null <;> simp [h]
    have a0 : 1 ≤ e.args.length → r80 k (e.args.getD 0 zEx, s, ()) = some ((((e.args.map (inf s)).getD 0 zKnown).f_null, ()), ()) := fun hl => by
      have hm := getD_mem (show 0 < e.args.length by omega) zEx
      have hm2 := sz_arg hm
      rw [map_getD (by omega)]
      exact null_k hs k _ (by omega) (hw.inv.2.2 _ hm)
    have a1 : 2 ≤ e.args.length → r80 k (e.args.getD 1 zEx, s, ()) = some ((((e.args.map (inf s)).getD 1 zKnown).f_null, ()), ()) := fun hl => by
      have hm := getD_mem (show 1 < e.args.length by omega) zEx
      have hm2 := sz_arg hm
      rw [map_getD (by omega)]
      exact null_k hs k _ (by omega) (hw.inv.2.2 _ hm)
    rw [show r80 (k + 1) (e, s, ()) = _ from r80_succ k (e, s, ()), F80_run, inf_eq, cl]
    unfold infNode
    by_cases h1 : e.kind = 1
    · rw [cdt h1, if_pos h1]
    rw [cdf h1, if_neg h1]
    by_cases h2 : e.kind = 2
    · rw [cdt h2, if_pos h2, bnd (isIn_run _ hs)]
    rw [cdf h2, if_neg h2]
    by_cases h3 : e.kind = 3
    · have := hw.one (.inl h3)
      rw [cdt h3, cdt h3, if_pos h3, if_pos (by omega), show Int.toNat 0 = 0 from rfl, bnd (a0 (by omega))]
    rw [cdf h3, if_neg h3]
    by_cases h4 : e.kind = 4
    · have := hw.one (.inr (.inl h4))
      rw [cdt h4, cdt h4, if_pos (show e.kind = 4 ∨ e.kind = 7 from .inl h4), if_pos (by omega), show Int.toNat 0 = 0 from rfl, bnd (a0 (by omega))]
    rw [cdf h4]
    by_cases h7 : e.kind = 7
    · have := hw.ge h7
      rw [cdt h7, if_pos (show e.kind = 4 ∨ e.kind = 7 from .inr h7), if_pos (by omega), show Int.toNat 0 = 0 from rfl, bnd (a0 (by omega))]
    rw [cdf h7, if_neg (show ¬(e.kind = 4 ∨ e.kind = 7) by omega)]
    by_cases h5 : e.kind = 5
    · have := hw.two h5
      rw [cdt h5, if_neg (show ¬e.kind = 6 by omega), if_pos h5, if_pos (by omega), show Int.toNat 0 = 0 from rfl, bnd (a0 (by omega)), if_pos (by omega), show Int.toNat 1 = 1 from rfl, bnd (a1 (by omega)), show ∀ a b, F80c14 (r80 k) 4000000 a b = _ from fun a b => F80c14_eq (r80 k) 3999999 a b]
      simp only []
      generalize (e.args.map (inf s)).getD 0 zKnown = x
      generalize (e.args.map (inf s)).getD 1 zKnown = y
      unfold infB
      by_cases h7 : e.op = 7
      · rw [cdt h7, if_pos h7]; cases x.f_null <;> rfl
      rw [cdf h7, if_neg h7]
      by_cases h8 : e.op = 8
      · rw [cdt h8, if_pos h8]; cases x.f_null <;> rfl
      rw [cdf h8, if_neg h8]
      cases x.f_null <;> rfl
    rw [cdf h5]
    by_cases h6 : e.kind = 6
    · rw [if_pos h6]
    · rw [if_neg h6, if_neg h5]; rfl
theorem isFalse_run {e : Ex} (h : e.kind = 1 → valid e.value = true) : F81.run [PK.v (Ty.nm 1)] [RK.v Ty.bool] 4000000 (e, ()) = some ((isV e false, ()), ()) := by
  have h8 : F108.run [PK.v (Ty.nm 0)] [RK.v Ty.bool] 4000000 (e.value, ()) = some ((decide (e.value.kind = 1) && decide (e.value.int = 0), ()), ()) := by
    rw [F108_run]; cases decide (e.value.kind = 1) <;> rfl
  rw [F81_run]
  unfold isV
  by_cases hk : e.kind = 1
  · rw [cdt hk, bnd h8, decide_eq_true hk, valid_isT (h hk)]; rfl
  · rw [cdf hk, decide_eq_false hk]; rfl
theorem never_k {ts s : List Int} (hs : s.length ≤ 1000000) : ∀ (k : Nat) (e : Ex) (t : Bool), sz e ≤ k → sz e ≤ 100000 → WT ts e → r47 k (e, s, t, ()) = some (((bif t then (inf s e).notTrue else (inf s e).notFalse), ()), ())
  | 0, e, _, h, _, _ => by have := sz_pos e; omega
  | k + 1, e, t, h, hz, hw => by
    have hk := hw.kinds
    have a0 : ∀ t, 1 ≤ e.args.length → r47 k (e.args.getD 0 zEx, s, t, ()) = some (((bif t then ((e.args.map (inf s)).getD 0 zKnown).notTrue else ((e.args.map (inf s)).getD 0 zKnown).notFalse), ()), ()) := fun t hl => by
      have hm := getD_mem (show 0 < e.args.length by omega) zEx
      have hm2 := sz_arg hm
      rw [map_getD (by omega)]
      exact never_k hs k _ t (by omega) (by omega) (hw.inv.2.2 _ hm)
    have a1 : ∀ t, 2 ≤ e.args.length → r47 k (e.args.getD 1 zEx, s, t, ()) = some (((bif t then ((e.args.map (inf s)).getD 1 zKnown).notTrue else ((e.args.map (inf s)).getD 1 zKnown).notFalse), ()), ()) := fun t hl => by
      have hm := getD_mem (show 1 < e.args.length by omega) zEx
      have hm2 := sz_arg hm
      rw [map_getD (by omega)]
      exact never_k hs k _ t (by omega) (by omega) (hw.inv.2.2 _ hm)
    rw [show r47 (k + 1) (e, s, t, ()) = _ from r47_succ k (e, s, t, ()), F47_run, show R80 = r80 100000 from rfl, bnd (null_k hs 100000 e hz hw)]
    rw [inf_eq]
    cases hn : (infNode s e.kind e.op e.value e.slot (e.args.map (inf s))).f_null with
    | true =>
      have : closeK (infNode s e.kind e.op e.value e.slot (e.args.map (inf s))) = ⟨true, true, true⟩ := by unfold closeK; rw [hn]; rfl
      rw [this]
      cases t <;> rfl
    | false =>
      have : closeK (infNode s e.kind e.op e.value e.slot (e.args.map (inf s))) = infNode s e.kind e.op e.value e.slot (e.args.map (inf s)) := by unfold closeK; rw [hn]; rfl
      rw [this, hn, cf]
      clear this hn
      unfold infNode
      by_cases h1 : e.kind = 1
      · rw [cdt h1, if_pos h1, bnd (risTrue_run hw.lit), bnd (isFalse_run hw.lit)]
        unfold isV
        rw [decide_eq_true h1]
        cases t <;> rfl
      rw [cdf h1, if_neg h1]
      by_cases h3 : e.kind = 3
      · have := hw.one (.inl h3)
        rw [cdt h3, if_neg (show ¬e.kind = 2 by omega), if_pos h3, if_pos (by omega), show Int.toNat 0 = 0 from rfl, bnd (a0 _ (by omega))]
        cases t <;> rfl
      rw [cdf h3]
      by_cases h6 : e.kind = 6
      · have := hw.one (.inr (.inr h6))
        have hm := getD_mem (show 0 < e.args.length by omega) zEx
        have hm2 := sz_arg hm
        rw [cdt h6, if_neg (show ¬e.kind = 2 by omega), if_neg h3, if_neg (show ¬(e.kind = 4 ∨ e.kind = 7) by omega), if_pos h6, if_pos (by omega), show Int.toNat 0 = 0 from rfl, bnd (null_k hs 100000 _ (by omega) (hw.inv.2.2 _ hm)), map_getD (by omega)]
        cases t <;> rfl
      rw [cdf h6]
      by_cases h5 : e.kind = 5
      · have := hw.two h5
        rw [cdt h5, if_neg (show ¬e.kind = 2 by omega), if_neg h3, if_neg (show ¬(e.kind = 4 ∨ e.kind = 7) by omega), if_neg h6, if_pos h5, show F47c15 (r47 k) 4000000 s t e = _ from F47c15_eq (r47 k) 3999999 s t e, if_pos (by omega), show Int.toNat 0 = 0 from rfl, bnd (a0 _ (by omega)), if_pos (by omega), show Int.toNat 1 = 1 from rfl, bnd (a1 _ (by omega))]
        simp only []
        generalize (e.args.map (inf s)).getD 0 zKnown = x
        generalize (e.args.map (inf s)).getD 1 zKnown = y
        obtain ⟨xa, xb, xc⟩ := x
        obtain ⟨ya, yb, yc⟩ := y
        unfold infB
        by_cases h7 : e.op = 7
        · rw [decide_eq_true h7, if_pos h7]; cases t <;> cases xb <;> cases xc <;> rfl
        rw [decide_eq_false h7, if_neg h7]
        by_cases h8 : e.op = 8
        · rw [decide_eq_true h8, if_pos h8]; cases t <;> cases xb <;> cases xc <;> rfl
        rw [decide_eq_false h8, if_neg h8]
        cases t <;> rfl
      rw [cdf h5]
      by_cases h2 : e.kind = 2
      · rw [if_pos h2]; cases t <;> rfl
      rw [if_neg h2, if_neg h3]
      by_cases h4 : e.kind = 4 ∨ e.kind = 7
      · rw [if_pos h4]; cases t <;> rfl
      rw [if_neg h4, if_neg h6, if_neg h5]
      cases t <;> rfl

theorem rejects_run {ts s : List Int} {e : Ex} (hs : s.length ≤ 1000000) (hz : sz e ≤ 100000) (hw : WT ts e) : F20.run [PK.v (Ty.nm 1), PK.v (Ty.int .i64).sl] [RK.v Ty.bool] 4000000 (e, s, ()) = some (((inf s e).notTrue, ()), ()) := by
  rw [F20_run, show R46 = r46 100000 from rfl, bnd (inf_k hs 100000 e hz (by omega) hw)]
theorem f5_run {e : Ex} {s : List Int} (hz : sz e ≤ 99000) (hs : s.length ≤ 1000000) : F5.run [.v (.nm 1), .v (.sl (.int .i64))] [.v .bool] 4000000 (e, s, ()) = some ((true, ()), ()) := by
  obtain ⟨b, h1, h2⟩ := fine_run (e := e) (by omega)
  rw [F5_run, bnd h1]
  cases b with
  | false => rfl
  | true =>
    have hw := (h2 rfl).wt
    have rr : F21.run [PK.v (Ty.nm 1), PK.v (Ty.int .i64).sl] [RK.v Ty.bool] 4000000 (e, s, ()) = some (((inf s e).notTrue, ()), ()) := by
      rw [F21_run, show R47 = r47 100000 from rfl, bnd (never_k hs 100000 e true (by omega) (by omega) hw)]; rfl
    simp only [Bool.not_true]
    rw [cf]
    cases decide ((20 : Int) < (s.length : Int)) with
    | true => rw [ct]
    | false =>
      rw [cf, show F5c3 4000000 s e = _ from F5c3_eq 3999999 s e, bnd (rejects_run hs (by omega) hw), bnd rr]
      simp only [decide_true]
      rw [ct]
theorem law5 (x : HIn NN.ρ [.v (.nm 1), .v (.sl (.int .i64))]) (hm : ∀ k, measI k [.v (.nm 1), .v (.sl (.int .i64))] x ≤ 1048576) (ho : ∀ k, okI k [.v (.nm 1), .v (.sl (.int .i64))] x) :
    ∃ o, F5.run [.v (.nm 1), .v (.sl (.int .i64))] [.v .bool] 4000000 x = some ((true, ()), o) := by
  obtain ⟨e, s, u⟩ := x
  have h0 : ∀ k, mEx k e + ((sumL (fun _ : Int => 1) s + 1) + 0) ≤ 1048576 := fun k => hm k
  have h' := size_of_meas (e := e) (B := 1048576) (fun k => by have := h0 k; omega)
  have hl : ∀ l : List Int, sumL (fun _ : Int => 1) l = l.length := fun l => by
    induction l with
    | nil => rfl
    | cons a l ih => simp only [sumL, ih, List.length_cons]; omega
  have := h0 0
  have h1 := hl s
  by_cases h20 : s.length ≤ 1000000
  · exact ⟨(), f5_run (by omega) h20⟩
  · obtain ⟨b, h1, h2⟩ := fine_run (e := e) (by omega)
    refine ⟨(), ?_⟩
    rw [show F5.run [.v (.nm 1), .v (.sl (.int .i64))] [.v .bool] 4000000 (e, s, u) = _ from F5_run _ _ _, bnd h1]
    cases b with
    | false => rfl
    | true =>
      simp only [Bool.not_true]
      rw [cf, cdt (show (20 : Int) < (s.length : Int) by omega)]
end Go.Proofs.Tryz
