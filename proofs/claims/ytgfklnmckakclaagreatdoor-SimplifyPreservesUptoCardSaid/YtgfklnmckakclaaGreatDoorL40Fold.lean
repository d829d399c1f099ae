/- Law 40: the fold as plain Lean, what it keeps. -/
import Derived.Test.YtgfklnmckakclaaGreatDoorL40PEv
set_option linter.unusedVariables false
set_option linter.unusedSimpArgs false
namespace Go.Proofs.Tryz
open Go.Eng

def allLit (l : List Ex) : Bool := l.all fun a => decide (a.kind = 1)
def junc (e : Ex) (o : Bool) : Ex :=
  bif isV (e.args.getD 0 zEx) o || isV (e.args.getD 1 zEx) o then litE (vbool o) else
  bif isV (e.args.getD 0 zEx) (!o) && decide ((e.args.getD 1 zEx).f_Type = 1) then e.args.getD 1 zEx else
  bif isV (e.args.getD 1 zEx) (!o) && decide ((e.args.getD 0 zEx).f_Type = 1) then e.args.getD 0 zEx else e
def resQ (t : Int) (l : List Ex) (i : Nat) : Bool := (decide (i % 2 = 1) || decide (i + 1 = l.length)) && decide ((l.getD i zEx).f_Type = t)
def pick (t : Int) (l : List Ex) : Bool := (List.range' 2 (l.length - 2)).any (resQ t l)
def casS (e : Ex) : Ex :=
  bif !decide ((e.args.getD 0 zEx).kind = 1) then e else
  bif isV (e.args.getD 0 zEx) true then (bif decide ((e.args.getD 1 zEx).f_Type = e.f_Type) then e.args.getD 1 zEx else e) else
  bif decide (e.args.length < 4) then e else bif pick e.f_Type e.args then { e with args := e.args.drop 2 } else e
noncomputable def stp (e : Ex) : Ex :=
  bif allLit e.args && decide ((ev [] e).kind = e.f_Type) then litE (ev [] e) else
  bif decide (e.kind = 5) && (decide (e.op = 7) || decide (e.op = 8)) then junc e (decide (e.op = 8)) else
  bif decide (e.kind = 3) && (decide ((e.args.getD 0 zEx).kind = 3) && decide (((e.args.getD 0 zEx).args.getD 0 zEx).f_Type = 1)) then (e.args.getD 0 zEx).args.getD 0 zEx else
  bif decide (e.kind = 8) then casS e else e
noncomputable def foldN : Nat → Ex → Ex
  | 0, e => e
  | k + 1, e => if e.kind = 1 ∨ e.kind = 2 then e else stp { e with args := e.args.map (foldN k) }

/-! ## Types of choices -/
theorem compat_iff {x o : Int} : compat x o = true ↔ x = 0 ∨ x = o := by unfold compat; rw [Bool.or_eq_true, decide_eq_true_eq, decide_eq_true_eq]
theorem comT_iff (r : Int) : ∀ (l : List Int) (t : Int), comT t l = (r, true) ↔ (∀ x ∈ l, x = 0 ∨ x = r) ∧ (t = 0 ∨ r = t) ∧ (r = t ∨ r ∈ l)
  | [], t => by
    rw [comT]
    constructor
    · intro h
      have := (Prod.mk.inj h).1
      exact ⟨by simp, .inr this.symm, .inl this.symm⟩
    · rintro ⟨_, h1, h2⟩
      rcases h2 with h2 | h2
      · rw [h2]
      · cases h2
  | x :: l, t => by
    rw [comT]
    have ih := fun t => comT_iff r l t
    by_cases ht : t = 0
    · subst ht
      rw [show decide ((0 : Int) = 0) = true from rfl, ct, show compat x x = true from compat_iff.2 (.inr rfl), ct, ih x]
      constructor
      · rintro ⟨h1, h2, h3⟩
        refine ⟨fun y hy => ?_, .inl rfl, ?_⟩
        · rcases List.mem_cons.1 hy with rfl | hy
          · exact h2.imp id Eq.symm
          · exact h1 y hy
        · exact .inr (h3.elim (fun h => by rw [h]; exact List.mem_cons_self ..) (fun h => List.mem_cons_of_mem _ h))
      · rintro ⟨h1, h2, h3⟩
        have hx := h1 x (List.mem_cons_self ..)
        refine ⟨fun y hy => h1 y (List.mem_cons_of_mem _ hy), hx.imp id Eq.symm, ?_⟩
        rcases h3 with h3 | h3
        · left; rcases hx with hx | hx <;> omega
        · exact (List.mem_cons.1 h3)
    · rw [decide_eq_false ht, cf]
      cases hc : compat x t with
      | false =>
        rw [cf]
        constructor
        · intro h; cases (Prod.mk.inj h).2
        · rintro ⟨h1, h2, h3⟩
          have hx := h1 x (List.mem_cons_self ..)
          have : compat x t = true := compat_iff.2 (by omega)
          rw [this] at hc; cases hc
      | true =>
        rw [ct, ih t]
        have hx := compat_iff.1 hc
        constructor
        · rintro ⟨h1, h2, h3⟩
          refine ⟨fun y hy => ?_, h2, ?_⟩
          · rcases List.mem_cons.1 hy with rfl | hy
            · omega
            · exact h1 y hy
          · left; omega
        · rintro ⟨h1, h2, h3⟩
          exact ⟨fun y hy => h1 y (List.mem_cons_of_mem _ hy), h2, .inl (by omega)⟩
theorem caseV_mem : ∀ (l ws : List Int), caseV l = some ws → ∀ i, i < l.length → (i % 2 = 1 ∨ i + 1 = l.length) → l.getD i 0 ∈ ws
  | [], ws, h, i, hi, _ => by simp at hi
  | [x], ws, h, i, hi, _ => by
    rw [caseV] at h
    cases h
    have : i = 0 := by simp at hi; omega
    rw [this]; simp
  | c :: v :: r, ws, h, i, hi, hp => by
    rw [caseV] at h
    cases hc : compat c 1 with
    | false => rw [hc] at h; cases h
    | true =>
      rw [hc, ct] at h
      cases hr : caseV r with
      | none => rw [hr] at h; cases h
      | some vs =>
        rw [hr] at h
        cases h
        match i with
        | 0 => simp at hp
        | 1 => simp
        | i + 2 =>
          have := caseV_mem r vs hr i (by simp at hi; omega) (by simp at hp; omega)
          simpa using Or.inr this
theorem WT.cas {ts : List Int} {e : Ex} (h : WT ts e) (hk : e.kind = 8) : 2 ≤ e.args.length ∧ caseT (e.args.map Ex.f_Type) = (e.f_Type, true) := by
  have h1 := h.inv.2.1
  have h2 : caseT (e.args.map Ex.f_Type) = (e.f_Type, true) := by rw [← h1]; unfold btype; rw [hk]; rfl
  refine ⟨?_, h2⟩
  unfold caseT at h2
  by_cases h3 : ((e.args.map Ex.f_Type).length : Int) < 2
  · rw [cdt h3] at h2; cases (Prod.mk.inj h2).2
  · rw [List.length_map] at h3; omega
theorem case_drop {l : List Int} {t : Int} (h : caseT l = (t, true)) (hl : 4 ≤ l.length) {i : Nat} (h2 : 2 ≤ i) (hi : i < l.length) (hp : i % 2 = 1 ∨ i + 1 = l.length) (ht : l.getD i 0 = t) : caseT (l.drop 2) = (t, true) := by
  match l, hl with
  | c :: v :: r, hl =>
    have hr : 2 ≤ r.length := by simp at hl; omega
    obtain ⟨j, rfl⟩ : ∃ j, i = j + 2 := ⟨i - 2, by omega⟩
    unfold caseT at h ⊢
    rw [cdf (by simp only [List.length_cons]; omega), caseV] at h
    rw [show (c :: v :: r).drop 2 = r from rfl, cdf (by omega)]
    cases hc : compat c 1 with
    | false => rw [hc] at h; cases (Prod.mk.inj h).2
    | true =>
      rw [hc, ct] at h
      cases hv : caseV r with
      | none => rw [hv] at h; cases (Prod.mk.inj h).2
      | some vs =>
        rw [hv] at h
        have h' : comT 0 (v :: vs) = (t, true) := h
        obtain ⟨h3, h4, h5⟩ := (comT_iff t _ _).1 h'
        have hm := caseV_mem r vs hv j (by simp at hi; omega) (by simp at hp; omega)
        have hj : (c :: v :: r).getD (j + 2) 0 = r.getD j 0 := rfl
        rw [← hj, ht] at hm
        exact (comT_iff t _ _).2 ⟨fun x hx => h3 x (List.mem_cons_of_mem _ hx), .inl rfl, .inr hm⟩

/-! ## What a step keeps -/
structure Keep (ts : List Int) (e f : Ex) : Prop where
  wt : WT ts f
  lit : Lit f
  type : f.f_Type = e.f_Type
  sz : sz f ≤ sz e
  dep : dep f ≤ dep e
theorem dep_mem : ∀ {l : List Ex} {a : Ex}, a ∈ l → dep a ≤ depL l
  | [], _, h => by cases h
  | e :: l, a, h => by
    rw [depL]
    rcases List.mem_cons.1 h with rfl | h
    · omega
    · have := dep_mem h; omega
theorem dep_arg {e a : Ex} (h : a ∈ e.args) : dep a < dep e := by rw [dep_eq e]; have := dep_mem h; omega
theorem keep_refl {ts : List Int} {e : Ex} (hw : WT ts e) (hl : Lit e) : Keep ts e e := ⟨hw, hl, rfl, Nat.le_refl _, Nat.le_refl _⟩
theorem wt_lit {ts : List Int} {v : Val} (h : valid v = true) : WT ts (litE v) := by
  refine .mk ⟨fun h => absurd rfl h, fun _ => ⟨rfl, rfl⟩, fun _ => rfl, .inl rfl, rfl, rfl, rfl, Nat.zero_le _⟩ ?_ (fun a h => by cases h)
  show ((v.kind, valid v && decide _) : Int × Bool) = (v.kind, true)
  rw [h]; rfl
theorem lit_lit {v : Val} (h : RV v) : Lit (litE v) := .mk h (fun a h => by cases h)
theorem dep_pos (e : Ex) : 1 ≤ dep e := by rw [dep_eq]; omega
theorem sz_lit (v : Val) : sz (litE v) = 1 := by rw [sz_eq]; rfl
theorem dep_lit (v : Val) : dep (litE v) = 1 := by rw [dep_eq]; rfl
theorem keep_lit {ts : List Int} {e : Ex} {v : Val} (h : valid v = true) (hr : RV v) (ht : v.kind = e.f_Type) : Keep ts e (litE v) :=
  ⟨wt_lit h, lit_lit hr, ht, by rw [sz_lit]; exact sz_pos e, by rw [dep_lit]; exact dep_pos e⟩
theorem keep_arg {ts : List Int} {e a : Ex} (hw : WT ts e) (hl : Lit e) (h : a ∈ e.args) (ht : a.f_Type = e.f_Type) : Keep ts e a :=
  ⟨hw.inv.2.2 a h, hl.arg a h, ht, Nat.le_of_lt (sz_arg h), Nat.le_of_lt (dep_arg h)⟩
theorem no_gv : ∀ v ∈ ([] : List Val), GV v := fun v h => by cases h
theorem WT.t5 {ts : List Int} {e : Ex} (h : WT ts e) (hk : e.kind = 5) (ho : e.op = 7 ∨ e.op = 8) : e.f_Type = 1 := by
  have h1 := h.inv.2.1
  have h2 := h.two hk
  rw [bt5 hk] at h1
  unfold binT at h1
  rw [List.length_map, h2] at h1
  rcases ho with ho | ho <;> (rw [ho] at h1; exact (Prod.mk.inj h1).1.symm)
theorem WT.t3 {ts : List Int} {e : Ex} (h : WT ts e) (hk : e.kind = 3) : e.f_Type = 1 := by
  have h1 := h.inv.2.1
  unfold btype at h1
  rw [hk] at h1
  exact (Prod.mk.inj h1).1.symm
theorem szL_drop (n : Nat) : ∀ (l : List Ex), szL (l.drop n) ≤ szL l := by
  intro l
  induction l generalizing n with
  | nil => simp
  | cons a l ih =>
    cases n with
    | zero => exact Nat.le_refl _
    | succ n => rw [List.drop_succ_cons, szL]; have := ih n; omega
theorem depL_drop (n : Nat) : ∀ (l : List Ex), depL (l.drop n) ≤ depL l := by
  intro l
  induction l generalizing n with
  | nil => simp
  | cons a l ih =>
    cases n with
    | zero => exact Nat.le_refl _
    | succ n => rw [List.drop_succ_cons, depL]; have := ih n; omega
theorem wt_args {ts : List Int} {e : Ex} {l : List Ex} (hw : WT ts e) (h1 : ∀ a ∈ l, WT ts a) (h2 : btype ts e (l.map Ex.f_Type) = (e.f_Type, true)) (h3 : l.length ≤ 256) : WT ts { e with args := l } := by
  obtain ⟨f, b, a⟩ := hw.inv
  exact .mk ⟨f.value, f.slot, f.op, f.name, f.distinct, f.part, f.ord, h3⟩ h2 h1
theorem pick_mem {t : Int} {l : List Ex} (h : pick t l = true) : ∃ i, 2 ≤ i ∧ i < l.length ∧ (i % 2 = 1 ∨ i + 1 = l.length) ∧ (l.getD i zEx).f_Type = t := by
  unfold pick at h
  obtain ⟨i, hi, hq⟩ := List.any_eq_true.1 h
  rw [List.mem_range'_1] at hi
  unfold resQ at hq
  rw [Bool.and_eq_true, Bool.or_eq_true, decide_eq_true_eq, decide_eq_true_eq, decide_eq_true_eq] at hq
  exact ⟨i, by omega, by omega, hq.1, hq.2⟩
theorem map_ty {l : List Ex} {i : Nat} (h : i < l.length) : (l.map Ex.f_Type).getD i 0 = (l.getD i zEx).f_Type := by
  rw [getD_eq (by rw [List.length_map]; exact h), List.getElem_map, getD_eq h]
theorem keep_cas {ts : List Int} {e : Ex} (hw : WT ts e) (hl : Lit e) (hk : e.kind = 8) : Keep ts e (casS e) := by
  obtain ⟨h2, ht⟩ := hw.cas hk
  unfold casS
  cases decide ((e.args.getD 0 zEx).kind = 1) with
  | false => exact keep_refl hw hl
  | true =>
    rw [Bool.not_true, cf]
    cases isV (e.args.getD 0 zEx) true with
    | true =>
      rw [ct]
      by_cases h : (e.args.getD 1 zEx).f_Type = e.f_Type
      · rw [cdt h]; exact keep_arg hw hl (getD_mem (by omega) zEx) h
      · rw [cdf h]; exact keep_refl hw hl
    | false =>
      rw [cf]
      by_cases h4 : e.args.length < 4
      · rw [cdt h4]; exact keep_refl hw hl
      · rw [cdf h4]
        cases hp : pick e.f_Type e.args with
        | false => exact keep_refl hw hl
        | true =>
          rw [ct]
          obtain ⟨i, p1, p2, p3, p4⟩ := pick_mem hp
          have hc : caseT ((e.args.drop 2).map Ex.f_Type) = (e.f_Type, true) := by
            rw [List.map_drop]
            exact case_drop ht (by rw [List.length_map]; omega) p1 (by rw [List.length_map]; omega) (by rw [List.length_map]; exact p3) (by rw [map_ty p2, p4])
          have hf := hw.inv.1.args
          refine ⟨wt_args hw (fun a h => hw.inv.2.2 a (List.mem_of_mem_drop h)) ?_ (by rw [List.length_drop]; omega), .mk hl.val (fun a h => hl.arg a (List.mem_of_mem_drop h)), rfl, ?_, ?_⟩
          · rw [← hc]; unfold btype; rw [hk]; rfl
          · rw [sz_eq, sz_eq e]; have := szL_drop 2 e.args; simp only; omega
          · rw [dep_eq, dep_eq e]; have := depL_drop 2 e.args; simp only; omega
theorem keep_stp {ts : List Int} {e : Ex} (hw : WT ts e) (hl : Lit e) : Keep ts e (stp e) := by
  unfold stp
  cases ha : (allLit e.args && decide ((ev [] e).kind = e.f_Type)) with
  | true =>
    rw [Bool.and_eq_true, decide_eq_true_eq] at ha
    have g := ev_gv no_gv hw hl
    exact keep_lit g.valid g.rv ha.2
  | false =>
    rw [cf]
    cases hj : (decide (e.kind = 5) && (decide (e.op = 7) || decide (e.op = 8))) with
    | true =>
      rw [Bool.and_eq_true, Bool.or_eq_true, decide_eq_true_eq, decide_eq_true_eq, decide_eq_true_eq] at hj
      have h2 := hw.two hj.1
      have ht := hw.t5 hj.1 hj.2
      rw [ct]
      generalize decide (e.op = 8) = o
      unfold junc
      cases (isV (e.args.getD 0 zEx) o || isV (e.args.getD 1 zEx) o) with
      | true => exact keep_lit (valid_b _) (rv_b _) ht.symm
      | false =>
        rw [cf]
        cases h1 : (isV (e.args.getD 0 zEx) (!o) && decide ((e.args.getD 1 zEx).f_Type = 1)) with
        | true =>
          rw [Bool.and_eq_true, decide_eq_true_eq] at h1
          rw [ct]; exact keep_arg hw hl (getD_mem (by omega) zEx) (by rw [h1.2, ht])
        | false =>
          rw [cf]
          cases h3 : (isV (e.args.getD 1 zEx) (!o) && decide ((e.args.getD 0 zEx).f_Type = 1)) with
          | true =>
            rw [Bool.and_eq_true, decide_eq_true_eq] at h3
            rw [ct]; exact keep_arg hw hl (getD_mem (by omega) zEx) (by rw [h3.2, ht])
          | false => exact keep_refl hw hl
    | false =>
      rw [cf]
      cases hn : (decide (e.kind = 3) && (decide ((e.args.getD 0 zEx).kind = 3) && decide (((e.args.getD 0 zEx).args.getD 0 zEx).f_Type = 1))) with
      | true =>
        rw [Bool.and_eq_true, Bool.and_eq_true, decide_eq_true_eq, decide_eq_true_eq, decide_eq_true_eq] at hn
        obtain ⟨n1, n2, n3⟩ := hn
        have l1 := hw.one (.inl n1)
        have m1 := getD_mem (show 0 < e.args.length by omega) zEx
        have w1 := hw.inv.2.2 _ m1
        have l2 := w1.one (.inl n2)
        have m2 := getD_mem (show 0 < (e.args.getD 0 zEx).args.length by omega) zEx
        have k1 := keep_arg w1 (hl.arg _ m1) m2 (by rw [n3, w1.t3 n2])
        rw [ct]; exact ⟨k1.wt, k1.lit, by rw [n3, hw.t3 n1], Nat.le_trans k1.sz (Nat.le_of_lt (sz_arg m1)), Nat.le_trans k1.dep (Nat.le_of_lt (dep_arg m1))⟩
      | false =>
        rw [cf]
        by_cases h8 : e.kind = 8
        · rw [cdt h8]; exact keep_cas hw hl h8
        · rw [cdf h8]; exact keep_refl hw hl

/-! ## The whole fold -/
theorem szL_map (f : Ex → Ex) : ∀ (l : List Ex), (∀ a ∈ l, sz (f a) ≤ sz a) → szL (l.map f) ≤ szL l
  | [], _ => Nat.le_refl _
  | a :: l, h => by
    rw [List.map_cons, szL, szL]
    have := szL_map f l (fun b hb => h b (List.mem_cons_of_mem _ hb))
    have := h a (List.mem_cons_self ..)
    omega
theorem depL_map (f : Ex → Ex) : ∀ (l : List Ex), (∀ a ∈ l, dep (f a) ≤ dep a) → depL (l.map f) ≤ depL l
  | [], _ => Nat.le_refl _
  | a :: l, h => by
    rw [List.map_cons, depL, depL]
    have := depL_map f l (fun b hb => h b (List.mem_cons_of_mem _ hb))
    have := h a (List.mem_cons_self ..)
    omega
theorem keep_args {ts : List Int} {e : Ex} (hw : WT ts e) (hl : Lit e) (f : Ex → Ex) (h : ∀ a ∈ e.args, Keep ts a (f a)) : Keep ts e { e with args := e.args.map f } := by
  have hf := hw.inv.1.args
  refine ⟨wt_args hw (fun a ha => ?_) ?_ (by rw [List.length_map]; exact hf), .mk hl.val (fun a ha => ?_), rfl, ?_, ?_⟩
  · obtain ⟨b, hb, rfl⟩ := List.mem_map.1 ha
    exact (h b hb).wt
  · rw [List.map_map, ← hw.inv.2.1]
    congr 1
    exact List.map_congr_left fun a ha => (h a ha).type
  · obtain ⟨b, hb, rfl⟩ := List.mem_map.1 ha
    exact (h b hb).lit
  · rw [sz_eq, sz_eq e]; have := szL_map f e.args (fun a ha => (h a ha).sz); simp only; omega
  · rw [dep_eq, dep_eq e]; have := depL_map f e.args (fun a ha => (h a ha).dep); simp only; omega
theorem Keep.trans {ts : List Int} {e f g : Ex} (h1 : Keep ts e f) (h2 : Keep ts f g) : Keep ts e g :=
  ⟨h2.wt, h2.lit, h2.type.trans h1.type, Nat.le_trans h2.sz h1.sz, Nat.le_trans h2.dep h1.dep⟩
theorem keep_fold {ts : List Int} : ∀ (k : Nat) (e : Ex), WT ts e → Lit e → Keep ts e (foldN k e)
  | 0, e, hw, hl => keep_refl hw hl
  | k + 1, e, hw, hl => by
    rw [foldN]
    split
    · exact keep_refl hw hl
    · have h1 := keep_args hw hl (foldN k) (fun a ha => keep_fold k a (hw.inv.2.2 a ha) (hl.arg a ha))
      exact h1.trans (keep_stp h1.wt h1.lit)
end Go.Proofs.Tryz
