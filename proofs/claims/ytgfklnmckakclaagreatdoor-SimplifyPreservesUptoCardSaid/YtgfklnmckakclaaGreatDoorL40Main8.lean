/- Law 40: predicates. -/
import Derived.Test.YtgfklnmckakclaaGreatDoorL40EqP
import Derived.Test.YtgfklnmckakclaaGreatDoorL40Law8
import Derived.Test.YtgfklnmckakclaaGreatDoorL40Main7
set_option linter.unusedVariables false
set_option linter.unusedSimpArgs false
namespace Go.Proofs.Tryz
open Go.Eng

theorem WT.one {ts : List Int} {e : Ex} (h : WT ts e) (hk : e.kind = 3 ∨ e.kind = 4 ∨ e.kind = 6) : e.args.length = 1 := by
  have h1 := h.inv.2.1
  unfold btype at h1
  by_cases h2 : ((e.args.map Ex.f_Type).length : Int) = 1
  · rw [List.length_map] at h2; omega
  · rcases hk with hk | hk | hk <;> · rw [hk, decide_eq_false h2] at h1; cases (Prod.mk.inj h1).2

def arg0 (e : Ex) : Ex := e.args.getD 0 zEx
def arg1 (e : Ex) : Ex := e.args.getD 1 zEx
def isNullC (e : Ex) : Option Int := if e.kind = 6 then if (arg0 e).kind = 2 then some (arg0 e).slot else none else none
def mir (op : Int) : Int := if op = 3 then 5 else if op = 4 then 6 else if op = 5 then 3 else if op = 6 then 4 else op
def cmpP (e : Ex) : Pred × Bool :=
  if (arg0 e).kind = 2 then (if (arg1 e).kind = 1 then (⟨(arg0 e).slot, e.op, (arg1 e).value⟩, true) else (zPred, false)) else
  if (arg0 e).kind = 1 then (if (arg1 e).kind = 2 then (⟨(arg1 e).slot, mir e.op, (arg0 e).value⟩, true) else (zPred, false)) else (zPred, false)
def predE (e : Ex) : Pred × Bool :=
  match isNullC e with
  | some c => (⟨c, 20, zVal⟩, true)
  | none => if e.kind = 3 then (match isNullC (arg0 e) with
      | some c => (⟨c, 21, zVal⟩, true)
      | none => (zPred, false)) else
    if e.kind = 5 then (if 1 ≤ e.op then (if e.op ≤ 6 then cmpP e else (zPred, false)) else (zPred, false)) else (zPred, false)
theorem mir_run (op : Int) : F57.run [PK.v (Ty.int .i64)] [RK.v (Ty.int .i64)] 4000000 (op, ()) = some ((mir op, ()), ()) := by
  rw [F57_run]; unfold mir
  by_cases h3 : op = 3
  · rw [cdt h3, if_pos h3]
  rw [cdf h3, if_neg h3]
  by_cases h4 : op = 4
  · rw [cdf (by omega), cdt h4, if_pos h4]
  rw [if_neg h4]
  by_cases h5 : op = 5
  · rw [cdt h5, if_pos h5]
  rw [cdf h5, cdf h4, if_neg h5]
  by_cases h6 : op = 6
  · rw [cdt h6, if_pos h6]
  rw [cdf h6, if_neg h6]
theorem rmir_run (op : Int) : F59.run [PK.v (Ty.int .i64)] [RK.v (Ty.int .i64)] 4000000 (op, ()) = some ((mir op, ()), ()) := by
  rw [F59_run]; unfold mir
  by_cases h3 : op = 3
  · rw [cdt h3, if_pos h3]
  rw [cdf h3, if_neg h3]
  by_cases h4 : op = 4
  · rw [cdt h4, if_pos h4]
  rw [cdf h4, if_neg h4]
  by_cases h5 : op = 5
  · rw [cdt h5, if_pos h5]
  rw [cdf h5, if_neg h5]
  by_cases h6 : op = 6
  · rw [cdt h6, if_pos h6]
  rw [cdf h6, if_neg h6]
theorem mir_lt {op : Int} (h : 1 ≤ op) (h' : op ≤ 6) : mir op ≤ 6 := by
  unfold mir; repeat (split <;> try omega)
theorem pred_null {e : Ex} (h : (predE e).2 = true) (h2 : (predE e).1.op = 20) : ∃ c, isNullC e = some c := by
  cases hn : isNullC e with
  | some c => exact ⟨c, rfl⟩
  | none =>
    exfalso
    unfold predE at h h2
    rw [hn] at h h2
    simp only at h h2
    by_cases h3 : e.kind = 3
    · rw [if_pos h3] at h h2
      cases hm : isNullC (arg0 e) with
      | some c => rw [hm] at h2; simp at h2
      | none => rw [hm] at h; simp at h
    · rw [if_neg h3] at h h2
      by_cases h5 : e.kind = 5
      · rw [if_pos h5] at h h2
        by_cases a : 1 ≤ e.op
        · rw [if_pos a] at h h2
          by_cases b : e.op ≤ 6
          · rw [if_pos b] at h h2
            have hm := mir_lt a b
            unfold cmpP at h h2
            by_cases k1 : (arg0 e).kind = 2
            · rw [if_pos k1] at h h2
              by_cases k2 : (arg1 e).kind = 1
              · rw [if_pos k2] at h2; simp only at h2; omega
              · rw [if_neg k2] at h; simp at h
            · rw [if_neg k1] at h h2
              by_cases k3 : (arg0 e).kind = 1
              · rw [if_pos k3] at h h2
                by_cases k2 : (arg1 e).kind = 2
                · rw [if_pos k2] at h2; simp only at h2; omega
                · rw [if_neg k2] at h; simp at h
              · rw [if_neg k3] at h; simp at h
          · rw [if_neg b] at h; simp at h
        · rw [if_neg a] at h; simp at h
      · rw [if_neg h5] at h; simp at h

theorem rnull_run {e : Ex} (h : e.kind = 6 → e.args.length = 1) : F58.run [PK.v (Ty.nm 1)] [RK.v (Ty.int .i64), RK.v Ty.bool] 4000000 (e, ()) = some (((isNullC e).getD 0, (isNullC e).isSome, ()), ()) := by
  rw [F58_run]; unfold isNullC
  by_cases h6 : e.kind = 6
  · have := h h6
    rw [cdt h6, if_pos h6, if_pos (by omega), show Int.toNat 0 = 0 from rfl, show e.args.getD 0 zEx = arg0 e from rfl]
    by_cases h2 : (arg0 e).kind = 2
    · rw [cdt h2, if_pos h2, if_pos (by omega)]; rfl
    · rw [cdf h2, if_neg h2]; rfl
  · rw [cdf h6, if_neg h6]; rfl
theorem one6 {ts : List Int} {e : Ex} (h : WT ts e) : e.kind = 6 → e.args.length = 1 := fun hk => h.one (.inr (.inr hk))
theorem mem_one {e : Ex} (h : e.args.length = 1) : arg0 e ∈ e.args := getD_mem (by omega) _

theorem rpred_run {ts : List Int} {e : Ex} (hw : WT ts e) : F29.run [PK.v (Ty.nm 1)] [RK.v (Ty.nm 3), RK.v Ty.bool] 4000000 (e, ()) = some (((predE e).1, (predE e).2, ()), ()) := by
  rw [F29_run, bnd (rnull_run (one6 hw))]
  unfold predE
  cases hn : isNullC e with
  | some c => rfl
  | none =>
    simp only [Option.isSome_none, cf]
    have h8 : e.kind ≠ 5 → F29c8 4000000 e zPred = some ((zPred, false, ()), ()) := fun h => by
      rw [show F29c8 4000000 e zPred = _ from F29c8_eq 3999999 e zPred, decide_eq_false h, Bool.not_false, ct]
    by_cases h3 : e.kind = 3
    · have h1 := hw.one (.inl h3)
      rw [cdt h3, if_pos h3, if_pos (by omega), show Int.toNat 0 = 0 from rfl, show e.args.getD 0 zEx = arg0 e from rfl, bnd (rnull_run (one6 (hw.inv.2.2 _ (mem_one h1))))]
      cases isNullC (arg0 e) with
      | some c => rfl
      | none =>
        simp only [Option.isSome_none, cf]
        rw [h8 (by omega)]
    · rw [cdf h3, if_neg h3]
      by_cases h5 : e.kind = 5
      · have h2 := hw.two h5
        rw [if_pos h5, show F29c8 4000000 e zPred = _ from F29c8_eq 3999999 e zPred, decide_eq_true h5, Bool.not_true, cf]
        by_cases a : 1 ≤ e.op
        · rw [if_pos a, cdf (by omega)]
          by_cases b : e.op ≤ 6
          · rw [if_pos b, cdf (by omega), show F29c10 3999999 e zPred = _ from F29c10_eq 3999998 e zPred, if_pos (by omega), if_pos (by omega), show Int.toNat 0 = 0 from rfl, show Int.toNat 1 = 1 from rfl, show e.args.getD 0 zEx = arg0 e from rfl, show e.args.getD 1 zEx = arg1 e from rfl, show F29c13 3999998 e zPred (arg0 e) (arg1 e) = _ from F29c13_eq 3999997 e zPred (arg0 e) (arg1 e), bnd (rmir_run _)]
            unfold cmpP
            by_cases k1 : (arg0 e).kind = 2
            · rw [cdt k1, if_pos k1]
              by_cases k2 : (arg1 e).kind = 1
              · rw [cdt k2, if_pos k2]
              · rw [cdf k2, if_neg k2, cdf (by omega)]
            · rw [cdf k1, if_neg k1]
              by_cases k3 : (arg0 e).kind = 1
              · rw [cdt k3, if_pos k3]
                by_cases k2 : (arg1 e).kind = 2
                · rw [cdt k2, if_pos k2]
                · rw [cdf k2, if_neg k2]
              · rw [cdf k3, if_neg k3]
          · rw [if_neg b, cdt (by omega)]
        · rw [if_neg a, cdt (by omega)]
      · rw [if_neg h5, h8 h5]

theorem cmpr_run (op : Int) : F55.run [PK.v (Ty.int .i64)] [RK.v Ty.bool] 4000000 (op, ()) = some ((decide (1 ≤ op) && decide (op ≤ 6), ()), ()) := by
  rw [F55_run]; cases decide (1 ≤ op) <;> rfl
theorem isLit_run (e : Ex) : F56.run [PK.v (Ty.nm 1)] [RK.v Ty.bool] 4000000 (e, ()) = some ((decide (e.kind = 1), ()), ()) := F56_run _ _
theorem pred_k {ts : List Int} : ∀ (k : Nat) (e : Ex), sz e ≤ k → WT ts e → r28 k (e, ()) = some (((predE e).1, (predE e).2, ()), ())
  | 0, e, h, _ => by have := sz_pos e; omega
  | k + 1, e, h, hw => by
    have tail : isNullC e = none → (bif decide (e.kind = (3 : Int)) then
      if (0 : Int) < (↑e.args.length : Int) then
        (r28 k (e.args.getD (Int.toNat (0 : Int)) zEx, ())).bind fun r2 =>
          bif !r2.fst.snd.fst then
            some ((zPred, (false, ())), ())
          else
            bif !decide (r2.fst.fst.op = (20 : Int)) then
              some ((zPred, (false, ())), ())
            else
              F28c7 (r28 k) 4000000 (zPred) (r2.fst.fst)
      else none
    else
      bif !decide (e.kind = (5 : Int)) then
        some ((zPred, (false, ())), ())
      else
        (F55.run [PK.v (Ty.int IntKind.i64)] [RK.v Ty.bool] (4000000 : Nat) (e.op, ())).bind fun r3 =>
          bif !r3.fst.fst then
            some ((zPred, (false, ())), ())
          else
            F28c11 (r28 k) 4000000 (e) (zPred)) = some (((predE e).1, (predE e).2, ()), ()) := by
      intro hn
      by_cases h3 : e.kind = 3
      · have h1 := hw.one (.inl h3)
        have hm := mem_one h1
        have h4 := sz_arg hm
        rw [cdt h3, if_pos (by omega), show Int.toNat 0 = 0 from rfl, show e.args.getD 0 zEx = arg0 e from rfl, bnd (pred_k k _ (by omega) (hw.inv.2.2 _ hm))]
        simp only []
        have key : predE e = match isNullC (arg0 e) with
            | some c => (⟨c, 21, zVal⟩, true)
            | none => (zPred, false) := by
          unfold predE; rw [hn]; simp only []; rw [if_pos h3]
        rw [key]
        cases hb : (predE (arg0 e)).2 with
        | false =>
          have : isNullC (arg0 e) = none := by
            cases hq : isNullC (arg0 e) with
            | none => rfl
            | some c => unfold predE at hb; rw [hq] at hb; simp at hb
          rw [this]; rfl
        | true =>
          rw [Bool.not_true, cf]
          by_cases ho : (predE (arg0 e)).1.op = 20
          · obtain ⟨c, hc⟩ := pred_null hb ho
            have : predE (arg0 e) = (⟨c, 20, zVal⟩, true) := by unfold predE; rw [hc]
            rw [decide_eq_true ho, Bool.not_true, cf, show F28c7 (r28 k) 4000000 zPred (predE (arg0 e)).1 = _ from F28c7_eq (r28 k) 3999999 _ _, hc, this]
          · have : isNullC (arg0 e) = none := by
              cases hq : isNullC (arg0 e) with
              | none => rfl
              | some c => unfold predE at ho; rw [hq] at ho; simp at ho
            rw [decide_eq_false ho, this]; rfl
      · rw [cdf h3]
        have key : predE e = if e.kind = 5 then (if 1 ≤ e.op then (if e.op ≤ 6 then cmpP e else (zPred, false)) else (zPred, false)) else (zPred, false) := by
          unfold predE; rw [hn]; simp only []; rw [if_neg h3]
        rw [key]
        by_cases h5 : e.kind = 5
        · have h2 := hw.two h5
          rw [if_pos h5, decide_eq_true h5, Bool.not_true, cf, bnd (cmpr_run _)]
          simp only []
          by_cases a : 1 ≤ e.op
          · by_cases b : e.op ≤ 6
            · rw [if_pos a, if_pos b, decide_eq_true a, decide_eq_true b, Bool.and_self, Bool.not_true, cf, show F28c11 (r28 k) 4000000 e zPred = _ from F28c11_eq (r28 k) 3999999 e zPred, if_pos (by omega), if_pos (by omega), show Int.toNat 0 = 0 from rfl, show Int.toNat 1 = 1 from rfl, show e.args.getD 0 zEx = arg0 e from rfl, show e.args.getD 1 zEx = arg1 e from rfl, show F28c16 (r28 k) 3999999 zPred = _ from F28c16_eq (r28 k) 3999998 zPred, bnd (isLit_run (arg1 e)), bnd (isLit_run (arg0 e)), bnd (mir_run _)]
              unfold cmpP
              by_cases k1 : (arg0 e).kind = 2
              · rw [cdt k1, if_pos k1]
                by_cases k2 : (arg1 e).kind = 1
                · rw [cdt k2, if_pos k2]
                · rw [cdf k2, if_neg k2, cdf (by omega)]
              · rw [cdf k1, if_neg k1]
                by_cases k3 : (arg0 e).kind = 1
                · rw [cdt k3, if_pos k3]
                  by_cases k2 : (arg1 e).kind = 2
                  · rw [cdt k2, if_pos k2]
                  · rw [cdf k2, if_neg k2]
                · rw [cdf k3, if_neg k3]
            · rw [if_pos a, if_neg b, decide_eq_true a, decide_eq_false b]; rfl
          · rw [if_neg a, decide_eq_false a]; rfl
        · rw [if_neg h5, decide_eq_false h5]; rfl
    rw [r28_succ, F28_run]
    by_cases h6 : e.kind = 6
    · have h1 := hw.one (.inr (.inr h6))
      rw [cdt h6, if_pos (by omega), show e.args.getD (Int.toNat 0) zEx = arg0 e from rfl, if_pos (by omega)]
      by_cases h2 : (arg0 e).kind = 2
      · have : isNullC e = some (arg0 e).slot := by unfold isNullC; rw [if_pos h6, if_pos h2]
        rw [cdt h2]
        unfold predE
        rw [this]
      · have : isNullC e = none := by unfold isNullC; rw [if_pos h6, if_neg h2]
        rw [cdf h2]
        exact tail this
    · have : isNullC e = none := by unfold isNullC; rw [if_neg h6]
      rw [cdf h6]
      exact tail this

def stepP (s : List Pred × List Ex) (e : Ex) : List Pred × List Ex := bif (predE e).2 then (s.1 ++ [(predE e).1], s.2) else (s.1, s.2 ++ [e])
def predS (l : List Ex) : List Pred × List Ex := l.foldl stepP ([], [])
theorem predS_mem : ∀ (l : List Ex) (s : List Pred × List Ex), (l.foldl stepP s).1.length + (l.foldl stepP s).2.length = s.1.length + s.2.length + l.length ∧ ∀ a ∈ (l.foldl stepP s).2, a ∈ s.2 ∨ a ∈ l
  | [], s => ⟨by simp, fun a h => .inl h⟩
  | e :: l, s => by
    obtain ⟨h1, h2⟩ := predS_mem l (stepP s e)
    have h3 : (stepP s e).1.length + (stepP s e).2.length = s.1.length + s.2.length + 1 := by
      unfold stepP; cases (predE e).2 <;> simp <;> omega
    rw [List.foldl_cons, List.length_cons]
    refine ⟨by omega, fun a h => ?_⟩
    rcases h2 a h with h | h
    · unfold stepP at h
      cases hj : (predE e).2 with
      | true => rw [hj] at h; exact .inl h
      | false =>
        rw [hj] at h
        rcases List.mem_append.1 h with h | h
        · exact .inl h
        · rw [List.mem_singleton.1 h]; exact .inr (List.mem_cons_self ..)
    · exact .inr (List.mem_cons_of_mem _ h)
theorem preds_run {ts : List Int} {l : List Ex} (hl : l.length ≤ 1000000) (hz : ∀ a ∈ l, sz a ≤ 100000) (hw : ∀ a ∈ l, WT ts a) : F30.run [PK.v (Ty.nm 1).sl] [RK.own 50 (Ty.nm 3), RK.own 27 (Ty.nm 1)] 4000000 (l, ()) = some (((predS l).1, (predS l).2, ()), ()) := by
  rw [F30_run, show F30c1 4000000 l [] [] = _ from F30c1_eq 3999999 l [] []]
  obtain ⟨r, e, rfl⟩ := loop (fun n i (s : List Pred × List Ex) => F30c2 n l (l.length : Nat) i s.1 s.2) l.length 1 0 (fun i s => s = (l.take i).foldl stepP ([], [])) (fun r => r = (((predS l).1, (predS l).2, ()), ()))
    (fun n s _ hs => ⟨_, by rw [F30c2_eq, cdf (by omega)], by
      rw [List.take_length] at hs
      rw [hs]; rfl⟩)
    (fun n i s hi hs => .inl ⟨n, stepP s (l.getD i zEx), Nat.le_refl _, by
      have h3 := (predS_mem (l.take i) ([], [])).1
      rw [← hs, List.length_take] at h3
      simp only [List.length_nil, Nat.zero_add] at h3
      rw [F30c2_eq, cdt (by omega), gd hi, Int.toNat_natCast, show R28 = r28 100000 from rfl, bnd (pred_k 100000 _ (hz _ (getD_mem hi zEx)) (hw _ (getD_mem hi zEx))), if_pos (by unfold lim; omega), if_pos (by unfold lim; omega), w1 (by omega)]
      unfold stepP
      cases (predE (l.getD i zEx)).2 with
      | true => rw [ct, ct]
      | false => rw [cf, cf], by rw [foldl_take _ _ hi zEx, ← hs]⟩) l.length 3999999 0 ([], []) (by omega) (by omega) (by omega) rfl
  exact e
theorem rpreds_run {ts : List Int} {l : List Ex} (hl : l.length ≤ 1000000) (hw : ∀ a ∈ l, WT ts a) : F31.run [PK.v (Ty.nm 1).sl] [RK.own 50 (Ty.nm 3), RK.own 27 (Ty.nm 1)] 4000000 (l, ()) = some (((predS l).1, (predS l).2, ()), ()) := by
  rw [F31_run, show F31c1 4000000 l = _ from F31c1_eq 3999999 l]
  obtain ⟨r, e, rfl⟩ := loop (fun n i (s : List Pred × List Ex) => F31c4 n l i s.1 s.2) l.length 1 0 (fun i s => s = (l.take i).foldl stepP ([], [])) (fun r => r = (((predS l).1, (predS l).2, ()), ()))
    (fun n s _ hs => ⟨_, by rw [F31c4_eq, cdf (by omega)], by
      rw [List.take_length] at hs
      rw [hs]; rfl⟩)
    (fun n i s hi hs => .inl ⟨n, stepP s (l.getD i zEx), Nat.le_refl _, by
      have h3 := (predS_mem (l.take i) ([], [])).1
      rw [← hs, List.length_take] at h3
      simp only [List.length_nil, Nat.zero_add] at h3
      rw [F31c4_eq, cdt (by omega), gd hi, Int.toNat_natCast, bnd (rpred_run (hw _ (getD_mem hi zEx))), gd hi, if_pos (by unfold lim; omega), if_pos (by unfold lim; omega), w1 (by omega)]
      unfold stepP
      cases (predE (l.getD i zEx)).2 with
      | true => rw [ct, ct]
      | false => rw [cf, cf], by rw [foldl_take _ _ hi zEx, ← hs]⟩) l.length 3999999 0 ([], []) (by omega) (by omega) (by omega) rfl
  exact e

theorem preds_same {p : List Pred} (h : p.length ≤ 1000000) : F8c9 3999999 p p = some ((true, ()), ()) := by
  rw [show F8c9 3999999 p p = _ from F8c9_eq 3999998 p p]
  obtain ⟨r, e, rfl⟩ := loop (fun n i (_ : Unit) => F8c10 n i p p) p.length 1 0 (fun i s => True) (fun r => r = ((true, ()), ()))
    (fun n s _ hs => ⟨_, by rw [F8c10_eq, cdf (by omega)], rfl⟩)
    (fun n i s hi hs => .inl ⟨n, (), Nat.le_refl _, by
      rw [F8c10_eq, cdt (by omega), gd hi, gd hi, Int.toNat_natCast, w1 (by omega)]
      simp only [decide_true, Bool.and_self, Bool.not_true]
      rw [cf], trivial⟩) p.length 3999998 0 () (by omega) (by omega) (by omega) trivial
  exact e
theorem f8_run {e : Ex} {l : List Ex} (hs : szL l ≤ 99000) (he : sz e ≤ 99000) : F8.run [.v (.nm 1), .v (.sl (.nm 1))] [.v .bool] 4000000 (e, l, ()) = some ((true, ()), ()) := by
  have hl := szL_len l
  have hm : ∀ a ∈ l, sz a ≤ 100000 := fun a ha => by have := szL_mem ha; omega
  obtain ⟨b, h1, h2⟩ := fine_run (e := e) (by omega)
  obtain ⟨c, h3, h4⟩ := all_run (l := l) (by omega) hm
  rw [F8_run, bnd h1]
  cases b with
  | false => rfl
  | true =>
    simp only [Bool.not_true]
    rw [cf, bnd h3]
    cases c with
    | false => rfl
    | true =>
      simp only [Bool.not_true]
      have hw : ∀ a ∈ l, WT typs a := fun a ha => ((h4 rfl).2 a ha).wt
      have hpm := predS_mem l ([], [])
      have hm1 : (predS l).1.length + (predS l).2.length = l.length := by have := hpm.1; simp only [List.length_nil, Nat.zero_add] at this; exact this
      have hm2 : ∀ a ∈ (predS l).2, a ∈ l := fun a ha => (hpm.2 a ha).resolve_left (by simp)
      rw [cf, show F8c3 4000000 l e = _ from F8c3_eq 3999999 l e, show R28 = r28 100000 from rfl, bnd (pred_k 100000 e (by omega) (h2 rfl).wt), bnd (rpred_run (h2 rfl).wt), bnd (preds_run (by omega) hm hw), bnd (rpreds_run (by omega) hw)]
      simp only [decide_true, Bool.and_self, Bool.not_true]
      rw [cf, cf, cf, bnd (same_run (by omega) (fun a ha => hm a (hm2 a ha)))]
      simp only [Bool.not_true]
      rw [cf, preds_same (by omega)]
theorem law8 (x : HIn NN.ρ [.v (.nm 1), .v (.sl (.nm 1))]) (hm : ∀ k, measI k [.v (.nm 1), .v (.sl (.nm 1))] x ≤ 1048576) (ho : ∀ k, okI k [.v (.nm 1), .v (.sl (.nm 1))] x) :
    ∃ o, F8.run [.v (.nm 1), .v (.sl (.nm 1))] [.v .bool] 4000000 x = some ((true, ()), o) := by
  obtain ⟨e, l, u⟩ := x
  have h0 : ∀ k, mEx k e + ((sumL (mEx k) l + 1) + 0) ≤ 1048576 := fun k => hm k
  have h := sizes_of_meas (l := l) (B := 1048576) (fun k => by have := h0 k; omega)
  have h' := size_of_meas (e := e) (B := 1048576) (fun k => by have := h0 k; omega)
  exact ⟨(), f8_run (by omega) (by omega)⟩
end Go.Proofs.Tryz
