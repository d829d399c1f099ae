/- Law 42: the reference's evaluation. -/
import Derived.Test.YtlkllggdiakpbaaGreatDoorL42Call
import Derived.Test.YtlkllggdiakpbaaGreatDoorL42WT
import Derived.Test.YtlkllggdiakpbaaGreatDoorL42Eqs
set_option linter.unusedVariables false
set_option linter.unusedSimpArgs false
namespace Go.Proofs.Tryz
open Go.Eng
noncomputable def vLike (a b : Val) : Val := bif !decide (a.kind = 3) then zVal else bif !decide (b.kind = 3) then zVal else vbool (likeR b.text a.text)
noncomputable def vBin (op : Int) (a b : Val) : Val :=
 bif decide (op = 7) then andL false [a, b] else bif decide (op = 8) then orL false [a, b] else
 bif decide (op = 9) || (decide (op = 10) || (decide (op = 11) || (decide (op = 12) || decide (op = 13)))) then vArith op a b else
 bif decide (op = 14) then vConcat a b else bif decide (op = 15) then vLike a b else vtest op a b
theorem valid_text {v : Val} (h : valid v = true) : v.text.length ≤ 4096 := by
 unfold valid at h
 split at h
 ·simp only [Bool.and_eq_true, decide_eq_true_eq] at h; rw [h.2]; simp
 ·split at h
  ·simp only [Bool.and_eq_true, decide_eq_true_eq] at h; rw [h.2]; simp
  ·split at h
   ·simp only [decide_eq_true_eq] at h; rw [h]; simp
   ·split at h
    ·simp only [Bool.and_eq_true, decide_eq_true_eq] at h; exact h.2
    ·cases h
def vIn (l : List Val) : Val := orL false ((l.drop 1).map (vtest 1 (l.getD 0 zVal)))
def chooseV : List Val → Val
 | c :: v :: l => bif isT c then v else chooseV l
 | [x] => x
 | [] => zVal
/-! ## The value of an expression -/
noncomputable def evN (r : List Val) (kind op : Int) (v : Val) (slot : Int) (name : List Int) (l : List Val) : Val :=
 if kind = 1 then v else if kind = 2 then atV r slot else if kind = 3 then vNot (l.getD 0 zVal) else if kind = 4 then vNeg (l.getD 0 zVal) else
 if kind = 5 then vBin op (l.getD 0 zVal) (l.getD 1 zVal) else if kind = 6 then vbool (decide ((l.getD 0 zVal).kind = 0)) else if kind = 7 then vIn l else
 if kind = 8 then chooseV l else if kind = 9 then callV name l else zVal
mutual
noncomputable def ev (r : List Val) : Ex → Val
 | ⟨kind, op, v, _, name, _, a, _, _, slot, _⟩ => evN r kind op v slot name (evL r a)
noncomputable def evL (r : List Val) : List Ex → List Val
 | [] => []
 | e :: l => ev r e :: evL r l
end
theorem evL_map (r : List Val) : ∀ l, evL r l = l.map (ev r)
 | [] => by rw [evL]; rfl
 | e :: l => by rw [evL, evL_map r l]; rfl
theorem ev_eq (r : List Val) (e : Ex) : ev r e = evN r e.kind e.op e.value e.slot e.name (e.args.map (ev r)) := by
 cases e; rw [ev, evL_map]
/-! ## What comes out is valid -/
theorem valid_b (b : Bool) : valid (vbool b) = true := by cases b <;> rfl
theorem valid_i (n : Int) : valid (intV n) = true := rfl
theorem valid_t {t : List Int} (h : t.length ≤ 4096) : valid ⟨3, 0, t⟩ = true := by
 unfold valid
 rw [if_neg (show ¬ (3 : Int) = 0 by decide), if_neg (show ¬ (3 : Int) = 1 by decide), if_neg (show ¬ (3 : Int) = 2 by decide), if_pos rfl, decide_eq_true h]; rfl
theorem valid_test (op : Int) (a b : Val) : valid (vtest op a b) = true := by
 unfold vtest
 cases decide (a.kind = 0) <;> cases decide (a.kind = b.kind) <;> cases decide (op < 1) <;> cases decide (6 < op) <;> first | rfl | exact valid_b _
theorem valid_and : ∀ (l : List Val) (u : Bool), valid (andL u l) = true
 | [], u => by rw [andL]; cases u <;> rfl
 | v :: l, u => by rw [andL]; cases isF v with
  | true => rfl
  | false => exact valid_and l _
theorem valid_or : ∀ (l : List Val) (u : Bool), valid (orL u l) = true
 | [], u => by rw [orL]; cases u <;> rfl
 | v :: l, u => by rw [orL]; cases isT v with
  | true => rfl
  | false => exact valid_or l _
theorem valid_choose : ∀ (l : List Val), (∀ v ∈ l, valid v = true) → valid (chooseV l) = true
 | [], _ => rfl
 | [x], h => h x (by simp)
 | c :: v :: l, h => by
  rw [chooseV]; cases isT c with
  | true => exact h v (by simp)
  | false => exact valid_choose l (fun w hw => h w (by simp [hw]))
theorem valid_first : ∀ (l : List Val), (∀ v ∈ l, valid v = true) → valid (firstN l) = true
 | [], _ => rfl
 | v :: l, h => by
  rw [firstN]; cases decide (v.kind = 0) with
  | true => exact valid_first l (fun w hw => h w (by simp [hw]))
  | false => exact h v (by simp)
theorem valid_ext (g : Bool) : ∀ (l : List Val) (o : Val), valid o = true → (∀ v ∈ l, valid v = true) → valid (extL g o l) = true
 | [], o, ho, _ => ho
 | v :: l, o, ho, h => by
  rw [extL]
  refine valid_ext g l _ ?_ (fun w hw => h w (by simp [hw]))
  cases extB g v o with
  | true => exact h v (by simp)
  | false => exact ho
theorem valid_arith (op : Int) (a b : Val) : valid (vArith op a b) = true := by
 unfold vArith; cases decide (a.kind = 2) <;> cases decide (b.kind = 2) <;> cases (numV op a.int b.int).2 <;> rfl
theorem valid_bin (op : Int) (a b : Val) : valid (vBin op a b) = true := by
 unfold vBin
 cases decide (op = 7) with
 | true => exact valid_and _ _
 | false => cases decide (op = 8) with
  | true => exact valid_or _ _
  | false => cases (decide (op = 9) || (decide (op = 10) || (decide (op = 11) || (decide (op = 12) || decide (op = 13))))) with
   | true => exact valid_arith _ _ _
   | false => cases decide (op = 14) with
    | true =>
     show valid (vConcat a b) = true
     unfold vConcat
     cases decide (a.kind = 3) with
     | false => rfl
     | true => cases decide (b.kind = 3) with
      | false => rfl
      | true =>
       by_cases h : 4096 < a.text.length + b.text.length
       ·rw [decide_eq_true h]; rfl
       ·rw [decide_eq_false h]; exact valid_t (by rw [List.length_append]; omega)
    | false => cases decide (op = 15) with
     | true =>
      show valid (vLike a b) = true
      unfold vLike
      cases decide (a.kind = 3) <;> cases decide (b.kind = 3) <;> first | rfl | exact valid_b _
     | false => exact valid_test _ _ _
theorem valid_get {l : List Val} (h : ∀ v ∈ l, valid v = true) (i : Nat) : valid (l.getD i zVal) = true := by
 rcases Nat.lt_or_ge i l.length with hi | hi
 ·exact h _ (getD_mem hi _)
 ·rw [List.getD_eq_getElem?_getD, List.getElem?_eq_none hi]; rfl
theorem valid_fix (x : List Int) {l : List Val} (h : ∀ v ∈ l, valid v = true) : valid (fixV x l) = true := by
 have t0 := valid_text (valid_get h 0)
 unfold fixV
 cases decide (x = nLength) with
 | true => exact valid_i _
 | false => cases decide (x = nUpper) with
  | true => exact valid_t (by rw [(mappedR_run t0).2]; exact t0)
  | false => cases decide (x = nLower) with
   | true => exact valid_t (by rw [(mappedR_run t0).2]; exact t0)
   | false => cases decide (x = nSubstr) with
    | true => exact valid_t (by
      have := partR_len (s := (l.getD 0 zVal).text) (a := (l.getD 1 zVal).int) (n := (l.getD 2 zVal).int) (l.getD 0 zVal).text.length []
      simp only [List.length_nil, Nat.zero_add] at this
      omega)
    | false => cases decide (x = nAbs) with
     | true =>
      simp only [cf, ct]
      cases decide ((l.getD 0 zVal).int = -9223372036854775808) with
      | true => rfl
      | false => exact valid_i _
     | false => cases decide (x = nParity) with
      | true => exact valid_i _
      | false => exact valid_b _
theorem valid_call (x : List Int) {l : List Val} (h : ∀ v ∈ l, valid v = true) : valid (callV x l) = true := by
 unfold callV
 cases genT x l.length with
 | true =>
  rw [ct]
  cases decide (x = nNullif) with
  | true =>
   rw [ct]
   cases decide (vtest 1 (l.getD 0 zVal) (l.getD 1 zVal) = vbool true) with
   | true => rfl
   | false => exact valid_get h 0
  | false => cases decide (x = nLeast) with
   | true => exact valid_ext _ _ _ rfl h
   | false => cases decide (x = nGreatest) with
    | true => exact valid_ext _ _ _ rfl h
    | false => exact valid_first l h
 | false =>
  rw [cf]
  cases (sigT x).2.2 with
  | false => rfl
  | true => cases decide (((sigT x).1.length : Int) = l.length) with
   | false => rfl
   | true => cases kindsOK l (sigT x).1 with
    | false => rfl
    | true => exact valid_fix x h
theorem valid_at {r : List Val} (h : ∀ v ∈ r, valid v = true) (i : Int) : valid (atV r i) = true := by
 unfold atV
 cases decide (i < 0) with
 | true => rfl
 | false => cases decide ((r.length : Int) ≤ i) with
  | true => rfl
  | false => exact valid_get h _
theorem ev_valid {ts : List Int} {r : List Val} (hr : ∀ v ∈ r, valid v = true) : ∀ (k : Nat) (e : Ex), sz e ≤ k → WT ts e → valid (ev r e) = true
 | 0, e, h, _ => by have := sz_pos e; omega
 | k + 1, e, h, hw => by
  have ha : ∀ v ∈ e.args.map (ev r), valid v = true := fun v hv => by
   obtain ⟨a, ha, rfl⟩ := List.mem_map.1 hv
   exact ev_valid hr k a (by have := sz_arg ha; omega) (hw.inv.2.2 a ha)
  rw [ev_eq]
  unfold evN
  split
  ·rename_i h1; exact hw.lit h1
  split
  ·exact valid_at hr _
  split
  ·unfold vNot; cases decide (((e.args.map (ev r)).getD 0 zVal).kind = 1) with
   | true => exact valid_b _
   | false => rfl
  split
  ·unfold vNeg; cases decide (((e.args.map (ev r)).getD 0 zVal).kind = 2) <;> cases decide (((e.args.map (ev r)).getD 0 zVal).int = -9223372036854775808) <;> rfl
  split
  ·exact valid_bin _ _ _
  split
  ·exact valid_b _
  split
  ·exact valid_or _ _
  split
  ·exact valid_choose _ ha
  split
  ·exact valid_call _ ha
  ·rfl
end Go.Proofs.Tryz
