/- Law 40: conjuncts and conjunctions. -/
import Derived.Test.YtgfklnmckakclaaGreatDoorL40EqC
import Derived.Test.YtgfklnmckakclaaGreatDoorL40Typ
import Derived.Test.YtgfklnmckakclaaGreatDoorL40Law7
import Derived.Test.YtgfklnmckakclaaGreatDoorL40Main4
set_option linter.unusedVariables false
set_option linter.unusedSimpArgs false
namespace Go.Proofs.Tryz
open Go.Eng

theorem WT.lit {ts : List Int} {e : Ex} (h : WT ts e) (hk : e.kind = 1) : valid e.value = true := by
  have h1 := h.inv.2.1
  unfold btype at h1
  rw [cdt hk] at h1
  have h2 := (Prod.mk.inj h1).2
  simp only [Bool.and_eq_true] at h2
  exact h2.1
theorem valid_bool {v : Val} (h : valid v = true) (hk : v.kind = 1) : v.text = [] ∧ (v.int = 0 ∨ v.int = 1) := by
  unfold valid at h
  rw [if_neg (by omega), if_pos hk] at h
  simp only [Bool.and_eq_true, Bool.or_eq_true, decide_eq_true_eq] at h
  exact ⟨h.2, h.1⟩

def litE (v : Val) : Ex := { zEx with kind := 1, value := v, f_Type := v.kind }
def isV (e : Ex) (b : Bool) : Bool := decide (e.kind = 1) && decide (e.value = vbool b)
theorem boolE_run (b : Bool) : F52.run [PK.v Ty.bool] [RK.v (Ty.nm 1)] 4000000 (b, ()) = some ((litE (vbool b), ()), ()) := by
  rw [F52_run]
  cases b
  · rw [cf, bnd (F83_run _ _)]; rfl
  · rw [ct, bnd (F83_run _ _)]; rfl
theorem rlit_run (v : Val) : F53.run [PK.v (Ty.nm 0)] [RK.v (Ty.nm 1)] 4000000 (v, ()) = some ((litE v, ()), ()) := by
  rw [show F53.run [PK.v (Ty.nm 0)] [RK.v (Ty.nm 1)] 4000000 (v, ()) = _ from F53_run _ _]; rfl
theorem rbool_run (b : Bool) : F54.run [PK.v Ty.bool] [RK.v (Ty.nm 0)] 4000000 (b, ()) = some ((vbool b, ()), ()) := by
  rw [F54_run]
  cases b <;> rfl
theorem val_eq (a b : Val) : (decide (a.kind = b.kind) && (decide (a.int = b.int) && (decide (a.text = b.text) && true))) = decide (a = b) := by
  cases a; cases b
  simp only [Bool.and_true]
  rw [← Bool.decide_and, ← Bool.decide_and, decide_eq_decide]
  simp
theorem is_run (e : Ex) (b : Bool) : F50.run [PK.v (Ty.nm 1), PK.v Ty.bool] [RK.v Ty.bool] 4000000 (e, b, ()) = some ((isV e b, ()), ()) := by
  rw [F50_run]
  unfold isV
  by_cases h : e.kind = 1
  · rw [cdt h, bnd (boolE_run b), decide_eq_true h]
    simp only [val_eq]
    rfl
  · rw [cdf h, decide_eq_false h]; rfl
theorem isTrue_run (v : Val) : F49.run [PK.v (Ty.nm 0)] [RK.v Ty.bool] 4000000 (v, ()) = some ((decide (v.kind = 1) && decide (v.int = 1), ()), ()) := by
  rw [F49_run]; cases decide (v.kind = 1) <;> rfl
theorem valid_isT {v : Val} (h : valid v = true) (b : Bool) : decide (v = vbool b) = (decide (v.kind = 1) && decide (v.int = bif b then 1 else 0)) := by
  rw [← Bool.decide_and, decide_eq_decide]
  constructor
  · intro e; rw [e]; exact ⟨rfl, rfl⟩
  · intro ⟨h1, h2⟩
    have := (valid_bool h h1).1
    cases v
    simp only at h1 h2 this
    rw [h1, h2, this]; rfl
theorem risTrue_run {e : Ex} (h : e.kind = 1 → valid e.value = true) : F51.run [PK.v (Ty.nm 1)] [RK.v Ty.bool] 4000000 (e, ()) = some ((isV e true, ()), ()) := by
  rw [F51_run]
  unfold isV
  by_cases hk : e.kind = 1
  · rw [cdt hk, bnd (isTrue_run _), decide_eq_true hk, valid_isT (h hk)]; rfl
  · rw [cdf hk, decide_eq_false hk]; rfl

def conjN : Nat → Ex → List Ex
  | 0, _ => []
  | k + 1, e => bif isV e true then [] else bif decide (e.kind = 5) && decide (e.op = 7) then conjN k (e.args.getD 0 zEx) ++ conjN k (e.args.getD 1 zEx) else [e]
theorem sz_two {e : Ex} (h : e.args.length = 2) : sz (e.args.getD 0 zEx) + sz (e.args.getD 1 zEx) < sz e := by
  match ha : e.args with
  | [a, b] =>
    rw [sz_eq e, ha]
    simp only [List.getD_cons_zero, List.getD_cons_succ, szL]
    omega
  | [] => rw [ha] at h; simp at h
  | [_] => rw [ha] at h; simp at h
  | _ :: _ :: _ :: _ => rw [ha] at h; simp at h
theorem mem_two {e : Ex} (h : e.args.length = 2) : e.args.getD 0 zEx ∈ e.args ∧ e.args.getD 1 zEx ∈ e.args := ⟨getD_mem (by omega) _, getD_mem (by omega) _⟩
theorem conjN_bd {ts : List Int} : ∀ (k : Nat) (e : Ex), WT ts e → (conjN k e).length ≤ sz e ∧ ∀ a ∈ conjN k e, sz a ≤ sz e ∧ WT ts a
  | 0, e, _ => ⟨Nat.zero_le _, fun a h => by cases h⟩
  | k + 1, e, h => by
    rw [conjN]
    cases isV e true with
    | true => exact ⟨Nat.zero_le _, fun a h => by cases h⟩
    | false =>
      rw [cf]
      cases hb : decide (e.kind = 5) && decide (e.op = 7) with
      | false => exact ⟨sz_pos e, fun a h' => by rw [cf] at h'; rw [List.mem_singleton.1 h']; exact ⟨Nat.le_refl _, h⟩⟩
      | true =>
        simp only [Bool.and_eq_true, decide_eq_true_eq] at hb
        have h2 := h.two hb.1
        have h3 := sz_two h2
        have h4 := mem_two h2
        have i0 := conjN_bd k _ (h.inv.2.2 _ h4.1)
        have i1 := conjN_bd k _ (h.inv.2.2 _ h4.2)
        rw [ct, List.length_append]
        refine ⟨by omega, fun a ha => ?_⟩
        rcases List.mem_append.1 ha with ha | ha
        · exact ⟨by have := (i0.2 a ha).1; omega, (i0.2 a ha).2⟩
        · exact ⟨by have := (i1.2 a ha).1; omega, (i1.2 a ha).2⟩
theorem conj_k {ts : List Int} : ∀ (k : Nat) (e : Ex), sz e ≤ k → sz e ≤ 100000 → WT ts e → r24 k (e, ()) = some ((conjN k e, ()), ())
  | 0, e, h, _, _ => by have := sz_pos e; omega
  | k + 1, e, h, hs, hw => by
    rw [r24_succ, F24_run, show F24c1 (r24 k) 4000000 e = _ from F24c1_eq (r24 k) 3999999 e, bnd (is_run e true), conjN]
    cases isV e true with
    | true => rfl
    | false =>
      simp only [cf]
      by_cases hk : e.kind = 5
      · by_cases ho : e.op = 7
        · have h2 := hw.two hk
          have h3 := sz_two h2
          have h4 := mem_two h2
          have w0 := hw.inv.2.2 _ h4.1
          have w1 := hw.inv.2.2 _ h4.2
          have l0 := (conjN_bd k _ w0).1
          have l1 := (conjN_bd k _ w1).1
          rw [decide_eq_true hk, decide_eq_true ho, Bool.and_self, ct, ct, ct, if_pos (by omega), show Int.toNat 0 = 0 from rfl, show Int.toNat 1 = 1 from rfl, bnd (conj_k k _ (by omega) (by omega) w0), if_pos (by omega), bnd (conj_k k _ (by omega) (by omega) w1)]
          exact if_pos (show (conjN k (e.args.getD 0 zEx)).length + (conjN k (e.args.getD 1 zEx)).length ≤ 4294967296 by omega)
        · rw [decide_eq_true hk, decide_eq_false ho]; rfl
      · rw [decide_eq_false hk]; rfl
theorem rconj_k {ts : List Int} : ∀ (k : Nat) (e : Ex), sz e ≤ k → sz e ≤ 100000 → WT ts e → r25 k (e, ()) = some ((conjN k e, ()), ())
  | 0, e, h, _, _ => by have := sz_pos e; omega
  | k + 1, e, h, hs, hw => by
    rw [r25_succ, F25_run, show F25c1 (r25 k) 4000000 e = _ from F25c1_eq (r25 k) 3999999 e, bnd (risTrue_run hw.lit), conjN]
    cases isV e true with
    | true => rfl
    | false =>
      simp only [cf]
      by_cases hk : e.kind = 5
      · by_cases ho : e.op = 7
        · have h2 := hw.two hk
          have h3 := sz_two h2
          have h4 := mem_two h2
          have w0 := hw.inv.2.2 _ h4.1
          have w1' := hw.inv.2.2 _ h4.2
          have l0 := (conjN_bd k _ w0).1
          have l1 := (conjN_bd k _ w1').1
          rw [decide_eq_true hk, decide_eq_true ho, Bool.and_self, Bool.not_true, cf, cf, ct, show F25c5 (r25 k) 3999999 e = _ from F25c5_eq (r25 k) 3999998 e, if_pos (by omega), show Int.toNat 0 = 0 from rfl, show Int.toNat 1 = 1 from rfl, bnd (rconj_k k _ (by omega) (by omega) w0), if_pos (by omega), bnd (rconj_k k _ (by omega) (by omega) w1')]
          simp only []
          generalize conjN k (e.args.getD 0 zEx) = a at l0
          generalize conjN k (e.args.getD 1 zEx) = b at l1
          obtain ⟨r, e1, rfl⟩ := loop (fun n i s => F25c8 (r25 k) n i s b) b.length 1 0 (fun i s => s = a ++ b.take i) (fun r => r = ((a ++ b, ()), ()))
            (fun n s _ hs => ⟨_, by rw [F25c8_eq, cdf (by omega)], by
              rw [List.take_length] at hs
              rw [hs]⟩)
            (fun n i s hi hs => .inl ⟨n, _, Nat.le_refl _, by
              have : s.length ≤ 200000 := by rw [hs, List.length_append, List.length_take]; omega
              rw [F25c8_eq, cdt (by omega), gd hi, Int.toNat_natCast, if_pos (by unfold lim; omega), w1 (by omega)], by
              rw [hs, List.take_succ_eq_append_getElem hi, ← getD_eq hi (d := zEx), List.append_assoc]⟩) b.length 3999998 0 a (by omega) (by omega) (by omega) (by simp)
          exact e1
        · rw [decide_eq_true hk, decide_eq_false ho]; rfl
      · rw [decide_eq_false hk]; rfl

def andE (a b : Ex) : Ex := { zEx with kind := 5, op := 7, args := [a, b], f_Type := 1 }
def conjE : List Ex → Ex
  | [] => litE (vbool true)
  | x :: l => l.foldl andE x
theorem sz_andE (a b : Ex) : sz (andE a b) = sz a + sz b + 1 := by
  rw [sz_eq]
  show szL [a, b] + szL [] + szO [] + 1 = _
  simp [szL, szO]
theorem sz_fold : ∀ (l : List Ex) (x : Ex), sz (l.foldl andE x) = sz x + szL l + l.length
  | [], x => by simp [szL]
  | a :: l, x => by
    rw [List.foldl_cons, sz_fold l, sz_andE, szL, List.length_cons]; omega
theorem sz_conjE (l : List Ex) : sz (conjE l) ≤ 1 + szL l + l.length := by
  cases l with
  | nil => decide
  | cons x l => rw [conjE, sz_fold, szL, List.length_cons]; omega
theorem conjE_run {l : List Ex} (hl : l.length ≤ 1000000) : F26.run [PK.v (Ty.nm 1).sl] [RK.v (Ty.nm 1)] 4000000 (l, ()) = some ((conjE l, ()), ()) := by
  rw [F26_run]
  cases l with
  | nil => rw [cdt (show ((([] : List Ex).length : Nat) : Int) = 0 from rfl), bnd (boolE_run true)]; rfl
  | cons x l =>
    have e1 : ((x :: l).length : Int).toNat = (x :: l).length := Int.toNat_natCast _
    rw [cdf (by simp <;> omega), if_pos (by simp <;> omega), if_pos (by simp <;> omega), if_pos (Int.le_refl _), e1, List.take_length, show Int.toNat 1 = 1 from rfl, show Int.toNat 0 = 0 from rfl, List.getD_cons_zero, List.drop_succ_cons, List.drop_zero, conjE]
    rw [List.length_cons] at hl
    obtain ⟨r, e1, rfl⟩ := loop (fun n i s => F26c5 n l l.length i zEx s) l.length 1 0 (fun i s => s = (l.take i).foldl andE x) (fun r => r = ((l.foldl andE x, ()), ()))
      (fun n s _ hs => ⟨_, by rw [F26c5_eq, cdf (by omega)], by
        rw [List.take_length] at hs
        rw [hs]⟩)
      (fun n i s hi hs => .inl ⟨n, andE s (l.getD i zEx), Nat.le_refl _, by
        rw [F26c5_eq, cdt (by omega), gd hi, Int.toNat_natCast, w1 (by omega)]; rfl, by
        rw [foldl_take _ _ hi zEx, hs]⟩) l.length 4000000 0 x (by omega) (by omega) (by omega) rfl
    exact e1
theorem rconjE_run {l : List Ex} (hl : l.length ≤ 1000000) : F27.run [PK.v (Ty.nm 1).sl] [RK.v (Ty.nm 1)] 4000000 (l, ()) = some ((conjE l, ()), ()) := by
  rw [F27_run]
  cases l with
  | nil =>
    rw [cdt (show ((([] : List Ex).length : Nat) : Int) = 0 from rfl), bnd (rbool_run true)]
    simp only []
    rw [bnd (rlit_run _)]; rfl
  | cons x l =>
    rw [cdf (by simp <;> omega), if_pos (by simp <;> omega), show Int.toNat 0 = 0 from rfl, List.getD_cons_zero, conjE]
    generalize hL : x :: l = L at hl
    have hx : ∀ i, (L.take (i + 1)) = x :: l.take i := fun i => by rw [← hL, List.take_succ_cons]
    obtain ⟨r, e1, rfl⟩ := loop (fun n i s => F27c5 n L i zEx s) L.length 1 0 (fun i s => 1 ≤ i ∧ s = (l.take (i - 1)).foldl andE x) (fun r => r = ((l.foldl andE x, ()), ()))
      (fun n s _ hs => ⟨_, by rw [F27c5_eq, cdf (by omega)], by
        rw [← hL, List.length_cons, Nat.add_sub_cancel, List.take_length] at hs
        rw [hs.2]⟩)
      (fun n i s hi hs => .inl ⟨n, andE s (L.getD i zEx), Nat.le_refl _, by
        rw [F27c5_eq, cdt (by omega), gd hi, Int.toNat_natCast, w1 (by omega)]; rfl, by omega, by
        obtain ⟨j, rfl⟩ : ∃ j, i = j + 1 := ⟨i - 1, by omega⟩
        have hj : j < l.length := by rw [← hL, List.length_cons] at hi; omega
        rw [Nat.add_sub_cancel, foldl_take _ _ hj zEx, hs.2, Nat.add_sub_cancel, ← hL, List.getD_cons_succ]⟩) L.length 4000000 1 x (by omega) (by omega) (by rw [← hL, List.length_cons]; omega) ⟨Nat.le_refl _, by simp⟩
    exact e1

theorem f7_loop {e : Ex} {l : List Ex} (hl : l.length ≤ 20) (hs : szL l ≤ 99000) (he : sz e ≤ 99000) (hw : WT typs e) : ∃ r, F7c4 3999999 l 0 e = some r ∧ r = ((true, ()), ()) := by
  refine loop (fun n i (_ : Unit) => F7c4 n l i e) l.length 1 0 (fun i s => True) (fun r => r = ((true, ()), ()))
      (fun n s _ _ => ⟨_, by
        have hc := conjN_bd (ts := typs) 100000 e hw
        have hz := sz_conjE l
        rw [F7c4_eq, cdf (by omega), show R24 = r24 100000 from rfl, show R25 = r25 100000 from rfl, bnd (conj_k 100000 e (by omega) (by omega) hw), bnd (rconj_k 100000 e (by omega) (by omega) hw)]
        simp only []
        rw [bnd (same_run (by omega) (fun a ha => by have := (hc.2 a ha).1; omega))]
        simp only []
        rw [ct, bnd (conjE_run (by omega)), bnd (rconjE_run (by omega))]
        simp only []
        rw [bnd (equal_run (by omega))]
        simp only []
        rw [ct], rfl⟩)
      (fun n i s hi _ => by
        rw [F7c4_eq, cdt (by omega), gd hi, gd hi, Int.toNat_natCast, w1 (by omega)]
        by_cases h1 : (l.getD i zEx).f_Type = 1
        · exact .inl ⟨n, (), Nat.le_refl _, by rw [decide_eq_true h1, Bool.not_true, cf], trivial⟩
        · by_cases h0 : (l.getD i zEx).f_Type = 0
          · exact .inl ⟨n, (), Nat.le_refl _, by rw [decide_eq_false h1, decide_eq_true h0, Bool.not_true, Bool.not_false, ct, cf], trivial⟩
          · exact .inr ⟨_, by rw [decide_eq_false h1, decide_eq_false h0, Bool.not_false, ct, ct], rfl⟩) l.length 3999999 0 () (by omega) (by omega) (by omega) trivial

theorem f7_run {e : Ex} {l : List Ex} (hs : szL l ≤ 99000) (he : sz e ≤ 99000) : F7.run [.v (.nm 1), .v (.sl (.nm 1))] [.v .bool] 4000000 (e, l, ()) = some ((true, ()), ()) := by
  have hl := szL_len l
  have hm : ∀ a ∈ l, sz a ≤ 100000 := fun a ha => by have := szL_mem ha; omega
  obtain ⟨b, h1, h2⟩ := fine_run (e := e) (by omega)
  obtain ⟨c, h3, h4⟩ := all_run (l := l) (by omega) hm
  rw [F7_run, bnd h1]
  cases b with
  | false => rfl
  | true =>
    simp only [Bool.not_true]
    rw [cf, bnd h3]
    cases c with
    | false => rfl
    | true =>
      simp only [Bool.not_true]
      obtain ⟨r, e1, rfl⟩ := f7_loop (e := e) (l := l) (h4 rfl).1 hs he (h2 rfl).wt
      rw [cf, show F7c3 4000000 l e = _ from F7c3_eq 3999999 l e, e1]

theorem law7 (x : HIn NN.ρ [.v (.nm 1), .v (.sl (.nm 1))]) (hm : ∀ k, measI k [.v (.nm 1), .v (.sl (.nm 1))] x ≤ 1048576) (ho : ∀ k, okI k [.v (.nm 1), .v (.sl (.nm 1))] x) :
    ∃ o, F7.run [.v (.nm 1), .v (.sl (.nm 1))] [.v .bool] 4000000 x = some ((true, ()), o) := by
  obtain ⟨e, l, u⟩ := x
  have h0 : ∀ k, mEx k e + ((sumL (mEx k) l + 1) + 0) ≤ 1048576 := fun k => hm k
  have h := sizes_of_meas (l := l) (B := 1048576) (fun k => by have := h0 k; omega)
  have h' := size_of_meas (e := e) (B := 1048576) (fun k => by have := h0 k; omega)
  exact ⟨(), f7_run (by omega) (by omega)⟩
end Go.Proofs.Tryz
