/- Law 42: the reference's evaluation. -/
import Derived.Test.YtlkllggdiakpbaaGreatDoorL42Call
import Derived.Test.YtlkllggdiakpbaaGreatDoorL42WT
import Derived.Test.YtlkllggdiakpbaaGreatDoorL42Eqs
set_option linter.unusedVariables false
set_option linter.unusedSimpArgs false
namespace Go.Proofs.Tryz
open Go.Eng
noncomputable def vLike (a b : Val) : Val := bif !decide (a.kind = 3) then zVal else bif !decide (b.kind = 3) then zVal else vbool (likeR b.text a.text)
noncomputable def vBin (op : Int) (a b : Val) : Val :=
 bif decide (op = 7) then andL false [a, b] else bif decide (op = 8) then orL false [a, b] else
 bif decide (op = 9) || (decide (op = 10) || (decide (op = 11) || (decide (op = 12) || decide (op = 13)))) then vArith op a b else
 bif decide (op = 14) then vConcat a b else bif decide (op = 15) then vLike a b else vtest op a b
theorem valid_text {v : Val} (h : valid v = true) : v.text.length ≤ 4096 := by
 unfold valid at h
 split at h
 ·simp only [Bool.and_eq_true, decide_eq_true_eq] at h; rw [h.2]; simp
 ·split at h
  ·simp only [Bool.and_eq_true, decide_eq_true_eq] at h; rw [h.2]; simp
  ·split at h
   ·simp only [decide_eq_true_eq] at h; rw [h]; simp
   ·split at h
    ·simp only [Bool.and_eq_true, decide_eq_true_eq] at h; exact h.2
    ·cases h
theorem vBin_run {op : Int} {a b : Val} (ha : valid a = true) (hb : valid b = true) : F68.run [PK.v (Ty.int .i64), PK.v (Ty.nm 0), PK.v (Ty.nm 0)] [RK.v (Ty.nm 0)] 4000000 (op, a, b, ()) = some ((vBin op a b, ()), ()) := by
 have ta := valid_text ha
 have tb := valid_text hb
 have h17 : F68c17 4000000 a b zVal = some ((vbool (likeR b.text a.text), ()), ()) := by
  rw [show F68c17 4000000 a b zVal = _ from F68c17_eq 3999999 a b zVal, bnd (likeR_run tb ta), bnd (rt_run _)]
 have h18 : F68c18 4000000 op a b zVal = some ((vtest op a b, ()), ()) := by
  rw [show F68c18 4000000 op a b zVal = _ from F68c18_eq 3999999 op a b zVal, bnd (vtest_run _ _ _)]
 rw [show F68.run [PK.v (Ty.int .i64), PK.v (Ty.nm 0), PK.v (Ty.nm 0)] [RK.v (Ty.nm 0)] 4000000 (op, a, b, ()) = _ from F68_run _ _ _ _, bnd (andL_run (l := [a, b]) (by simp)), bnd (orL_run (l := [a, b]) (by simp)), bnd (vArith_run op a b), bnd (vConcat_run (by omega) (by omega)), h17, h18]
 unfold vBin vLike
 by_cases h7 : op = 7
 ·rw [cdt h7, cdt h7]
 rw [cdf h7, cdf h7]
 by_cases h8 : op = 8
 ·rw [cdt h8, cdt h8]
 rw [cdf h8, cdf h8]
 by_cases h9 : op = 9
 ·rw [cdt h9, cdt h9, decide_eq_true h9]; rfl
 rw [cdf h9, decide_eq_false h9, Bool.false_or]
 by_cases h10 : op = 10
 ·rw [cdt h10, cdt h10, decide_eq_true h10]; rfl
 rw [cdf h10, decide_eq_false h10, Bool.false_or]
 by_cases h11 : op = 11
 ·rw [cdt h11, cdt h11, decide_eq_true h11]; rfl
 rw [cdf h11, decide_eq_false h11, Bool.false_or]
 by_cases h12 : op = 12
 ·rw [cdt h12, cdt h12, decide_eq_true h12]; rfl
 rw [cdf h12, decide_eq_false h12, Bool.false_or]
 by_cases h13 : op = 13
 ·rw [cdt h13, decide_eq_true h13]; rfl
 rw [cdf h13, decide_eq_false h13, cf]
 by_cases h14 : op = 14
 ·rw [cdt h14, cdt h14]
 rw [cdf h14, cdf h14]
 by_cases h15 : op = 15
 ·rw [cdt h15, cdt h15]
  cases decide (a.kind = 3) <;> cases decide (b.kind = 3) <;> rfl
 rw [cdf h15, cdf h15]
def vIn (l : List Val) : Val := orL false ((l.drop 1).map (vtest 1 (l.getD 0 zVal)))
theorem vIn_run {l : List Val} (hl : l.length ≤ 100000) (h0 : 0 < l.length) : F70.run [PK.v (Ty.nm 0).sl] [RK.v (Ty.nm 0)] 4000000 (l, ()) = some ((vIn l, ()), ()) := by
 rw [F70_run]
 obtain ⟨r, e, rfl⟩ := loop (fun k i x => F70c3 k l i zVal x) l.length 1 0 (fun i x => 1 ≤ i ∧ x = ((l.take i).drop 1).map (vtest 1 (l.getD 0 zVal))) (fun r => r = ((vIn l, ()), ()))
  (fun k x _ hx => ⟨((vIn l, ()), ()), by
   have hxl : x.length ≤ 1000000 := by rw [hx.2, List.length_map, List.length_drop, List.length_take]; omega
   rw [F70c3_eq, cdf (by omega), bnd (orL_run hxl), hx.2, List.take_length]; rfl, rfl⟩)
  (fun k i x hi hx => by
   have hxl : x.length ≤ 1000000 := by rw [hx.2, List.length_map, List.length_drop, List.length_take]; omega
   refine .inl ⟨k, _, Nat.le_refl _, by rw [F70c3_eq, cdt (by omega), if_pos (by omega), gd hi, bnd (vtest_run _ _ _), if_pos (by unfold lim; omega), w1 (by omega), Int.toNat_natCast, show Int.toNat 0 = 0 from rfl], by omega, ?_⟩
   rw [hx.2, List.take_succ_eq_append_getElem hi, List.drop_append_of_le_length (by rw [List.length_take]; omega), List.map_append, ← getD_eq hi (d := zVal)]; rfl) l.length 4000000 1 [] (by omega) (by omega) (by omega) ⟨Nat.le_refl _, by
    rw [List.drop_eq_nil_of_le (by rw [List.length_take]; omega)]; rfl⟩
 exact e
def chooseV : List Val → Val
 | c :: v :: l => bif isT c then v else chooseV l
 | [x] => x
 | [] => zVal
theorem choose_loop {l : List Val} (hl : l.length ≤ 1000000) : ∀ (m n i : Nat), l.length - i ≤ m → m + 1 ≤ n → i ≤ l.length → i % 2 = 0 → F71c2 n l i zVal = some ((chooseV (l.drop i), ()), ())
 | m, 0, i, _, h, _, _ => by omega
 | m, n + 1, i, hm, hn, hi, hp => by
  rw [F71c2_eq, w1 (by omega)]
  rcases Nat.lt_or_ge (i + 1) l.length with h | h
  ·rw [cdt (by omega), gd (by omega), bnd (isT_run _), gd h, Int.toNat_natCast, Int.toNat_natCast, drop_consV (by omega), drop_consV h, chooseV]
   cases isT (l.getD i zVal) with
   | true => rfl
   | false =>
    rw [cf, cf, wrap64_id (by omega) (by omega), show (i : Int) + 2 = ((i + 2 : Nat) : Int) by omega]
    exact choose_loop hl (m - 2) n (i + 2) (by omega) (by omega) (by omega) (by omega)
  ·rw [cdf (by omega)]
   have ht : ((l.length : Nat) : Int).tmod 2 = ((l.length % 2 : Nat) : Int) := by rw [Int.tmod_eq_emod_of_nonneg (by omega)]; omega
   rw [ht]
   rcases Nat.lt_or_ge i l.length with h1 | h1
   ·have e1 : IntKind.i64.wrap ((l.length : Int) - 1) = ((i : Nat) : Int) := by rw [wrap64_id (by omega) (by omega)]; omega
    rw [cdt (by omega), e1, gd h1, Int.toNat_natCast, drop_consV h1, List.drop_eq_nil_of_le h]; rfl
   ·rw [cdf (by omega), List.drop_eq_nil_of_le h1]; rfl
theorem chooseV_run {l : List Val} (hl : l.length ≤ 1000000) : F71.run [PK.v (Ty.nm 0).sl] [RK.v (Ty.nm 0)] 4000000 (l, ()) = some ((chooseV l, ()), ()) := by
 rw [F71_run]
 have := choose_loop hl l.length 4000000 0 (by omega) (by omega) (by omega) rfl
 rw [List.drop_zero] at this
 exact this
/-! ## The value of an expression -/
noncomputable def evN (r : List Val) (kind op : Int) (v : Val) (slot : Int) (name : List Int) (l : List Val) : Val :=
 if kind = 1 then v else if kind = 2 then atV r slot else if kind = 3 then vNot (l.getD 0 zVal) else if kind = 4 then vNeg (l.getD 0 zVal) else
 if kind = 5 then vBin op (l.getD 0 zVal) (l.getD 1 zVal) else if kind = 6 then vbool (decide ((l.getD 0 zVal).kind = 0)) else if kind = 7 then vIn l else
 if kind = 8 then chooseV l else if kind = 9 then callV name l else zVal
mutual
noncomputable def ev (r : List Val) : Ex → Val
 | ⟨kind, op, v, _, name, _, a, _, _, slot, _⟩ => evN r kind op v slot name (evL r a)
noncomputable def evL (r : List Val) : List Ex → List Val
 | [] => []
 | e :: l => ev r e :: evL r l
end
theorem evL_map (r : List Val) : ∀ l, evL r l = l.map (ev r)
 | [] => by rw [evL]; rfl
 | e :: l => by rw [evL, evL_map r l]; rfl
theorem ev_eq (r : List Val) (e : Ex) : ev r e = evN r e.kind e.op e.value e.slot e.name (e.args.map (ev r)) := by
 cases e; rw [ev, evL_map]
/-! ## What comes out is valid -/
theorem valid_b (b : Bool) : valid (vbool b) = true := by cases b <;> rfl
theorem valid_i (n : Int) : valid (intV n) = true := rfl
theorem valid_t {t : List Int} (h : t.length ≤ 4096) : valid ⟨3, 0, t⟩ = true := by
 unfold valid
 rw [if_neg (show ¬ (3 : Int) = 0 by decide), if_neg (show ¬ (3 : Int) = 1 by decide), if_neg (show ¬ (3 : Int) = 2 by decide), if_pos rfl, decide_eq_true h]; rfl
theorem valid_test (op : Int) (a b : Val) : valid (vtest op a b) = true := by
 unfold vtest
 cases decide (a.kind = 0) <;> cases decide (a.kind = b.kind) <;> cases decide (op < 1) <;> cases decide (6 < op) <;> first | rfl | exact valid_b _
theorem valid_and : ∀ (l : List Val) (u : Bool), valid (andL u l) = true
 | [], u => by rw [andL]; cases u <;> rfl
 | v :: l, u => by rw [andL]; cases isF v with
  | true => rfl
  | false => exact valid_and l _
theorem valid_or : ∀ (l : List Val) (u : Bool), valid (orL u l) = true
 | [], u => by rw [orL]; cases u <;> rfl
 | v :: l, u => by rw [orL]; cases isT v with
  | true => rfl
  | false => exact valid_or l _
theorem valid_choose : ∀ (l : List Val), (∀ v ∈ l, valid v = true) → valid (chooseV l) = true
 | [], _ => rfl
 | [x], h => h x (by simp)
 | c :: v :: l, h => by
  rw [chooseV]; cases isT c with
  | true => exact h v (by simp)
  | false => exact valid_choose l (fun w hw => h w (by simp [hw]))
theorem valid_first : ∀ (l : List Val), (∀ v ∈ l, valid v = true) → valid (firstN l) = true
 | [], _ => rfl
 | v :: l, h => by
  rw [firstN]; cases decide (v.kind = 0) with
  | true => exact valid_first l (fun w hw => h w (by simp [hw]))
  | false => exact h v (by simp)
theorem valid_ext (g : Bool) : ∀ (l : List Val) (o : Val), valid o = true → (∀ v ∈ l, valid v = true) → valid (extL g o l) = true
 | [], o, ho, _ => ho
 | v :: l, o, ho, h => by
  rw [extL]
  refine valid_ext g l _ ?_ (fun w hw => h w (by simp [hw]))
  cases extB g v o with
  | true => exact h v (by simp)
  | false => exact ho
theorem valid_arith (op : Int) (a b : Val) : valid (vArith op a b) = true := by
 unfold vArith; cases decide (a.kind = 2) <;> cases decide (b.kind = 2) <;> cases (numV op a.int b.int).2 <;> rfl
theorem valid_bin (op : Int) (a b : Val) : valid (vBin op a b) = true := by
 unfold vBin
 cases decide (op = 7) with
 | true => exact valid_and _ _
 | false => cases decide (op = 8) with
  | true => exact valid_or _ _
  | false => cases (decide (op = 9) || (decide (op = 10) || (decide (op = 11) || (decide (op = 12) || decide (op = 13))))) with
   | true => exact valid_arith _ _ _
   | false => cases decide (op = 14) with
    | true =>
     show valid (vConcat a b) = true
     unfold vConcat
     cases decide (a.kind = 3) with
     | false => rfl
     | true => cases decide (b.kind = 3) with
      | false => rfl
      | true =>
       by_cases h : 4096 < a.text.length + b.text.length
       ·rw [decide_eq_true h]; rfl
       ·rw [decide_eq_false h]; exact valid_t (by rw [List.length_append]; omega)
    | false => cases decide (op = 15) with
     | true =>
      show valid (vLike a b) = true
      unfold vLike
      cases decide (a.kind = 3) <;> cases decide (b.kind = 3) <;> first | rfl | exact valid_b _
     | false => exact valid_test _ _ _
theorem valid_get {l : List Val} (h : ∀ v ∈ l, valid v = true) (i : Nat) : valid (l.getD i zVal) = true := by
 rcases Nat.lt_or_ge i l.length with hi | hi
 ·exact h _ (getD_mem hi _)
 ·rw [List.getD_eq_getElem?_getD, List.getElem?_eq_none hi]; rfl
theorem valid_fix (x : List Int) {l : List Val} (h : ∀ v ∈ l, valid v = true) : valid (fixV x l) = true := by
 have t0 := valid_text (valid_get h 0)
 unfold fixV
 cases decide (x = nLength) with
 | true => exact valid_i _
 | false => cases decide (x = nUpper) with
  | true => exact valid_t (by rw [(mappedR_run t0).2]; exact t0)
  | false => cases decide (x = nLower) with
   | true => exact valid_t (by rw [(mappedR_run t0).2]; exact t0)
   | false => cases decide (x = nSubstr) with
    | true => exact valid_t (by
      have := partR_len (s := (l.getD 0 zVal).text) (a := (l.getD 1 zVal).int) (n := (l.getD 2 zVal).int) (l.getD 0 zVal).text.length []
      simp only [List.length_nil, Nat.zero_add] at this
      omega)
    | false => cases decide (x = nAbs) with
     | true =>
      simp only [cf, ct]
      cases decide ((l.getD 0 zVal).int = -9223372036854775808) with
      | true => rfl
      | false => exact valid_i _
     | false => cases decide (x = nParity) with
      | true => exact valid_i _
      | false => exact valid_b _
theorem valid_call (x : List Int) {l : List Val} (h : ∀ v ∈ l, valid v = true) : valid (callV x l) = true := by
 unfold callV
 cases genT x l.length with
 | true =>
  rw [ct]
  cases decide (x = nNullif) with
  | true =>
   rw [ct]
   cases decide (vtest 1 (l.getD 0 zVal) (l.getD 1 zVal) = vbool true) with
   | true => rfl
   | false => exact valid_get h 0
  | false => cases decide (x = nLeast) with
   | true => exact valid_ext _ _ _ rfl h
   | false => cases decide (x = nGreatest) with
    | true => exact valid_ext _ _ _ rfl h
    | false => exact valid_first l h
 | false =>
  rw [cf]
  cases (sigT x).2.2 with
  | false => rfl
  | true => cases decide (((sigT x).1.length : Int) = l.length) with
   | false => rfl
   | true => cases kindsOK l (sigT x).1 with
    | false => rfl
    | true => exact valid_fix x h
theorem valid_at {r : List Val} (h : ∀ v ∈ r, valid v = true) (i : Int) : valid (atV r i) = true := by
 unfold atV
 cases decide (i < 0) with
 | true => rfl
 | false => cases decide ((r.length : Int) ≤ i) with
  | true => rfl
  | false => exact valid_get h _
theorem ev_valid {ts : List Int} {r : List Val} (hr : ∀ v ∈ r, valid v = true) : ∀ (k : Nat) (e : Ex), sz e ≤ k → WT ts e → valid (ev r e) = true
 | 0, e, h, _ => by have := sz_pos e; omega
 | k + 1, e, h, hw => by
  have ha : ∀ v ∈ e.args.map (ev r), valid v = true := fun v hv => by
   obtain ⟨a, ha, rfl⟩ := List.mem_map.1 hv
   exact ev_valid hr k a (by have := sz_arg ha; omega) (hw.inv.2.2 a ha)
  rw [ev_eq]
  unfold evN
  split
  ·rename_i h1; exact hw.lit h1
  split
  ·exact valid_at hr _
  split
  ·unfold vNot; cases decide (((e.args.map (ev r)).getD 0 zVal).kind = 1) with
   | true => exact valid_b _
   | false => rfl
  split
  ·unfold vNeg; cases decide (((e.args.map (ev r)).getD 0 zVal).kind = 2) <;> cases decide (((e.args.map (ev r)).getD 0 zVal).int = -9223372036854775808) <;> rfl
  split
  ·exact valid_bin _ _ _
  split
  ·exact valid_b _
  split
  ·exact valid_or _ _
  split
  ·exact valid_choose _ ha
  split
  ·exact valid_call _ ha
  ·rfl
theorem ev_k {ts : List Int} {r : List Val} (hr : ∀ v ∈ r, valid v = true) : ∀ (k : Nat) (e : Ex), sz e ≤ k → sz e ≤ 100000 → WT ts e → r35 k (e, r, ()) = some ((ev r e, ()), ())
 | 0, e, h, _, _ => by have := sz_pos e; omega
 | k + 1, e, h, hz, hw => by
  have hk := hw.kinds
  have hl := len_arg e
  have hv : ∀ v ∈ e.args.map (ev r), valid v = true := fun v hv => by
   obtain ⟨a, ha, rfl⟩ := List.mem_map.1 hv
   exact ev_valid hr (sz a) a (Nat.le_refl _) (hw.inv.2.2 a ha)
  have all : (F65 (r35 k)).run [PK.v (Ty.nm 1).sl, PK.v (Ty.nm 0).sl] [RK.own 23 (Ty.nm 0)] 4000000 (e.args, r, ()) = some ((e.args.map (ev r), ()), ()) := by
   rw [F65_run, show F65c1 (r35 k) 4000000 e.args r = _ from F65c1_eq (r35 k) 3999999 e.args r]
   obtain ⟨q, e1, rfl⟩ := loop (fun n i x => F65c3 (r35 k) n e.args r i x) e.args.length 1 0 (fun i x => x = (e.args.take i).map (ev r)) (fun q => q = ((e.args.map (ev r), ()), ()))
    (fun n x _ hx => ⟨_, by rw [F65c3_eq, cdf (by omega)], by rw [hx, List.take_length]⟩)
    (fun n i x hi hx => .inl ⟨n, _, Nat.le_refl _, by
     have hm := getD_mem hi zEx
     have hm2 := sz_arg hm
     have : x.length ≤ 1000000 := by rw [hx, List.length_map, List.length_take]; omega
     rw [F65c3_eq, cdt (by omega), gd hi, Int.toNat_natCast, bnd (ev_k hr k _ (by omega) (by omega) (hw.inv.2.2 _ hm)), if_pos (by unfold lim; omega), w1 (by omega)], by
     rw [hx, List.take_succ_eq_append_getElem hi, List.map_append, ← getD_eq hi (d := zEx)]; rfl⟩) e.args.length 3999999 0 [] (by omega) (by omega) (by omega) rfl
   exact e1
  have hlen : (e.args.map (ev r)).length = e.args.length := List.length_map _
  rw [show r35 (k + 1) (e, r, ()) = _ from r35_succ k (e, r, ()), F35_run, show F35c9 (r35 k) 4000000 r e zVal = _ from F35c9_eq (r35 k) 3999999 r e zVal, bnd all, bnd (atV_run r e.slot), ev_eq]
  simp only []
  have ht : ∀ v ∈ e.args.map (ev r), v.text.length ≤ 4096 := fun v h => valid_text (hv v h)
  generalize e.args.map (ev r) = l at hv hlen ht
  have t0 : Int.toNat 0 = 0 := rfl
  have t1 : Int.toNat 1 = 1 := rfl
  unfold evN
  by_cases h1 : e.kind = 1
  ·rw [cdt h1, if_pos h1]
  rw [cdf h1, if_neg h1]
  by_cases h2 : e.kind = 2
  ·rw [cdt h2, if_pos h2]
  rw [cdf h2, if_neg h2, cdf (by omega), cdf (by omega)]
  by_cases h3 : e.kind = 3
  ·have := hw.one (.inl h3)
   rw [cdt h3, if_pos h3, if_pos (by omega), t0, bnd (vNot_run _)]
  rw [cdf h3, if_neg h3]
  by_cases h4 : e.kind = 4
  ·have := hw.one (.inr (.inl h4))
   rw [cdt h4, if_pos h4, if_pos (by omega), t0, bnd (vNeg_run _)]
  rw [cdf h4, if_neg h4]
  by_cases h5 : e.kind = 5
  ·have := hw.two h5
   rw [cdt h5, if_pos h5, if_pos (by omega), if_pos (by omega), t0, t1, bnd (vBin_run (valid_get hv 0) (valid_get hv 1))]
  rw [cdf h5, if_neg h5]
  by_cases h6 : e.kind = 6
  ·have := hw.one (.inr (.inr h6))
   rw [cdt h6, if_pos h6, if_pos (by omega), t0, bnd (rt_run _)]
  rw [cdf h6, if_neg h6]
  by_cases h7 : e.kind = 7
  ·have := hw.ge h7
   rw [cdt h7, if_pos h7, bnd (vIn_run (by omega) (by omega))]
  rw [cdf h7, if_neg h7]
  by_cases h8 : e.kind = 8
  ·rw [cdt h8, if_pos h8, bnd (chooseV_run (by omega))]
  rw [cdf h8, if_neg h8]
  by_cases h9 : e.kind = 9
  ·rw [cdt h9, if_pos h9, bnd (callV_run (by omega) ht)]
  rw [cdf h9, if_neg h9]
end Go.Proofs.Tryz
