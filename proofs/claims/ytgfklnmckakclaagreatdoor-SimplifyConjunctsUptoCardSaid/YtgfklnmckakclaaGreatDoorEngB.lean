/- The engine, part B: what the abstract values say of memory. -/
import Derived.Test.YtgfklnmckakclaaGreatDoorEngA
set_option linter.unusedVariables false
namespace Go.Eng
variable {N : Names}

theorem addr_add_add (a : Addr) (m j : Nat) : (a.add m).add j = a.add (m + j) := by
  unfold Addr.add
  by_cases hm : m = 0
  · subst hm; simp
  · by_cases hj : j = 0
    · subst hj; simp
    · simp [hm, hj, Nat.add_assoc]

theorem addr_add_block (a : Addr) (m : Nat) : (a.add m).block = a.block := by
  unfold Addr.add; split <;> rfl

/-- The cells of a value of a type; Nm tells it of the named ones. -/
def RepT (w : World) (ok : Nat → Prop) (Nm : (n : Nat) → N.ρ n → List Value → Prop) : (t : Ty) → t.den N.ρ → List Value → Prop
  | .int k, n, cs => cs = [.int k n]
  | .bool, b, cs => cs = [.bool b]
  | .str, l, cs => ∃ s, cs = [.string s] ∧ bytesL s = l
  | .sl e, xs, cs => ∃ A cap, cs = [.slice A xs.length cap] ∧ xs.length ≤ cap ∧ (A = none → cap = 0) ∧
      ∀ i x, xs[i]? = some x → ∃ ad ccs, A = some ad ∧ ok ad.block ∧ RepT w ok Nm e x ccs ∧ ∀ j u, ccs[j]? = some u → w.cell? (ad.add (i * N.sz e + j)) = some u
  | .nm n, x, cs => Nm n x cs
  | .opq, _, cs => ∃ v, cs = [v] ∧ v.oneCell' = true

def RepL (w : World) (ok : Nat → Prop) (Nm : (n : Nat) → N.ρ n → List Value → Prop) : (ts : List Ty) → HL N.ρ ts → List Value → Prop
  | [], _, cs => cs = []
  | t :: ts, x, cs => ∃ c1 c2, cs = c1 ++ c2 ∧ RepT w ok Nm t x.1 c1 ∧ RepL w ok Nm ts x.2 c2

/-- The named ones: the greatest predicate that opens. -/
def RepN (w : World) (ok : Nat → Prop) (n : Nat) (x : N.ρ n) (cs : List Value) : Prop :=
  ∃ R : (n : Nat) → N.ρ n → List Value → Prop, (∀ n x cs, R n x cs → (cs.length = N.size n ∧ ∀ u ∈ cs, u.oneCell' = true) ∧ RepL w ok R (N.body n) (N.un n x) cs) ∧ R n x cs

def Rep (w : World) (ok : Nat → Prop) (t : Ty) (x : t.den N.ρ) (cs : List Value) : Prop := RepT w ok (RepN w ok) t x cs

theorem RepT_mono {w w' : World} {ok ok' : Nat → Prop} {Nm Nm' : (n : Nat) → N.ρ n → List Value → Prop}
    (hw : ∀ a u, ok a.block → w.cell? a = some u → w'.cell? a = some u) (hok : ∀ b, ok b → ok' b) (hN : ∀ n x cs, Nm n x cs → Nm' n x cs) :
    ∀ (t : Ty) (x : t.den N.ρ) (cs : List Value), RepT w ok Nm t x cs → RepT w' ok' Nm' t x cs
  | .int k, n, cs, h => h
  | .bool, b, cs, h => h
  | .str, l, cs, h => h
  | .sl e, xs, cs, h => by
    obtain ⟨A, cap, h1, h2, h2', h3⟩ := h
    refine ⟨A, cap, h1, h2, h2', fun i x hx => ?_⟩
    obtain ⟨ad, ccs, e1, e2, e3, e4⟩ := h3 i x hx
    exact ⟨ad, ccs, e1, hok _ e2, RepT_mono hw hok hN e x ccs e3, fun j u hu => hw _ _ (by rw [addr_add_block]; exact e2) (e4 j u hu)⟩
  | .nm n, x, cs, h => hN n x cs h
  | .opq, _, cs, h => h

theorem RepL_mono {w w' : World} {ok ok' : Nat → Prop} {Nm Nm' : (n : Nat) → N.ρ n → List Value → Prop}
    (hw : ∀ a u, ok a.block → w.cell? a = some u → w'.cell? a = some u) (hok : ∀ b, ok b → ok' b) (hN : ∀ n x cs, Nm n x cs → Nm' n x cs) :
    ∀ (ts : List Ty) (x : HL N.ρ ts) (cs : List Value), RepL w ok Nm ts x cs → RepL w' ok' Nm' ts x cs
  | [], _, cs, h => h
  | t :: ts, x, cs, h => by
    obtain ⟨c1, c2, e, h1, h2⟩ := h
    exact ⟨c1, c2, e, RepT_mono hw hok hN t x.1 c1 h1, RepL_mono hw hok hN ts x.2 c2 h2⟩

theorem szL_cons (t : Ty) (ts : List Ty) : szL N.size (t :: ts) = N.sz t + szL N.size ts := by
  cases t <;> rfl

theorem RepL_length {w : World} {ok : Nat → Prop} {Nm : (n : Nat) → N.ρ n → List Value → Prop} (hN : ∀ n x cs, Nm n x cs → cs.length = N.size n) :
    ∀ (ts : List Ty) (x : HL N.ρ ts) (cs : List Value), RepL w ok Nm ts x cs → cs.length = szL N.size ts
  | [], _, cs, h => by rw [h]; rfl
  | t :: ts, x, cs, h => by
    obtain ⟨c1, c2, rfl, h1, h2⟩ := h
    rw [List.length_append, szL_cons, RepL_length hN ts x.2 c2 h2]
    congr 1
    cases t with
    | int k => rw [h1]; rfl
    | bool => rw [h1]; rfl
    | str => obtain ⟨s, rfl, _⟩ := h1; rfl
    | sl e => obtain ⟨A, cap, rfl, _⟩ := h1; rfl
    | nm n => exact hN n x.1 c1 h1
    | opq => obtain ⟨v, rfl, _⟩ := h1; rfl

theorem RepL_one {w : World} {ok : Nat → Prop} {Nm : (n : Nat) → N.ρ n → List Value → Prop} (hN : ∀ n x cs, Nm n x cs → ∀ u ∈ cs, u.oneCell' = true) :
    ∀ (ts : List Ty) (x : HL N.ρ ts) (cs : List Value), RepL w ok Nm ts x cs → ∀ u ∈ cs, u.oneCell' = true
  | [], _, cs, h => by rw [h]; intro u hu; cases hu
  | t :: ts, x, cs, h => by
    obtain ⟨c1, c2, rfl, h1, h2⟩ := h
    intro u hu
    rcases List.mem_append.1 hu with hu | hu
    · cases t with
      | int k => rw [h1] at hu; simp at hu; subst hu; rfl
      | bool => rw [h1] at hu; simp at hu; subst hu; rfl
      | str => obtain ⟨s, rfl, _⟩ := h1; simp at hu; subst hu; rfl
      | sl e => obtain ⟨A, cap, rfl, _⟩ := h1; simp at hu; subst hu; rfl
      | nm n => exact hN n x.1 c1 h1 u hu
      | opq => obtain ⟨v, rfl, h⟩ := h1; simp at hu; subst hu; exact h
    · exact RepL_one hN ts x.2 c2 h2 u hu

theorem RepN_open {w : World} {ok : Nat → Prop} {n : Nat} {x : N.ρ n} {cs : List Value} (h : RepN w ok n x cs) : RepL w ok (RepN w ok) (N.body n) (N.un n x) cs := by
  obtain ⟨R, hR, h⟩ := h
  exact RepL_mono (fun _ _ _ h => h) (fun _ h => h) (fun n x cs h => ⟨R, hR, h⟩) _ _ _ (hR n x cs h).2

theorem RepN_length {w : World} {ok : Nat → Prop} {n : Nat} {x : N.ρ n} {cs : List Value} (h : RepN w ok n x cs) : cs.length = N.size n := by
  obtain ⟨R, hR, h⟩ := h
  exact (hR n x cs h).1.1

theorem RepN_one {w : World} {ok : Nat → Prop} {n : Nat} {x : N.ρ n} {cs : List Value} (h : RepN w ok n x cs) : ∀ u ∈ cs, u.oneCell' = true := by
  obtain ⟨R, hR, h⟩ := h
  exact (hR n x cs h).1.2

theorem RepLL_length {w : World} {ok : Nat → Prop} {ts : List Ty} {x : HL N.ρ ts} {cs : List Value} (h : RepL w ok (RepN w ok) ts x cs) : cs.length = szL N.size ts :=
  RepL_length (fun _ _ _ h => RepN_length h) ts x cs h

theorem RepN_close {w : World} {ok : Nat → Prop} {n : Nat} {x : N.ρ n} {cs : List Value} (h : RepL w ok (RepN w ok) (N.body n) (N.un n x) cs) : RepN w ok n x cs := by
  refine ⟨fun n x cs => RepL w ok (RepN w ok) (N.body n) (N.un n x) cs, fun n x cs h => ⟨?_, ?_⟩, h⟩
  · exact ⟨by rw [RepLL_length h, N.size_eq], RepL_one (fun _ _ _ h => RepN_one h) _ _ _ h⟩
  · exact RepL_mono (fun _ _ _ h => h) (fun _ h => h) (fun n x cs h => RepN_open h) _ _ _ h

theorem RepN_mono {w w' : World} {ok ok' : Nat → Prop} (hw : ∀ a u, ok a.block → w.cell? a = some u → w'.cell? a = some u) (hok : ∀ b, ok b → ok' b)
    {n : Nat} {x : N.ρ n} {cs : List Value} (h : RepN w ok n x cs) : RepN w' ok' n x cs := by
  obtain ⟨R, hR, h⟩ := h
  exact ⟨R, fun n x cs h => ⟨(hR n x cs h).1, RepL_mono hw hok (fun _ _ _ h => h) _ _ _ (hR n x cs h).2⟩, h⟩

theorem Rep_mono {w w' : World} {ok ok' : Nat → Prop} (hw : ∀ a u, ok a.block → w.cell? a = some u → w'.cell? a = some u) (hok : ∀ b, ok b → ok' b)
    {t : Ty} {x : t.den N.ρ} {cs : List Value} (h : Rep w ok t x cs) : Rep w' ok' t x cs :=
  RepT_mono hw hok (fun _ _ _ h => RepN_mono hw hok h) t x cs h

theorem RepLL_mono {w w' : World} {ok ok' : Nat → Prop} (hw : ∀ a u, ok a.block → w.cell? a = some u → w'.cell? a = some u) (hok : ∀ b, ok b → ok' b)
    {ts : List Ty} {x : HL N.ρ ts} {cs : List Value} (h : RepL w ok (RepN w ok) ts x cs) : RepL w' ok' (RepN w' ok') ts x cs :=
  RepL_mono hw hok (fun _ _ _ h => RepN_mono hw hok h) ts x cs h

theorem Rep_length {w : World} {ok : Nat → Prop} {t : Ty} {x : t.den N.ρ} {cs : List Value} (h : Rep w ok t x cs) : cs.length = N.sz t := by
  cases t with
  | int k => rw [show cs = _ from h]; rfl
  | bool => rw [show cs = _ from h]; rfl
  | str => obtain ⟨s, rfl, _⟩ := h; rfl
  | sl e => obtain ⟨A, cap, rfl, _⟩ := h; rfl
  | nm n => exact RepN_length h
  | opq => obtain ⟨v, rfl, _⟩ := h; rfl

theorem Rep_one {w : World} {ok : Nat → Prop} {t : Ty} {x : t.den N.ρ} {cs : List Value} (h : Rep w ok t x cs) : ∀ u ∈ cs, u.oneCell' = true := by
  intro u hu
  cases t with
  | int k => rw [show cs = _ from h] at hu; simp at hu; subst hu; rfl
  | bool => rw [show cs = _ from h] at hu; simp at hu; subst hu; rfl
  | str => obtain ⟨s, rfl, _⟩ := h; simp at hu; subst hu; rfl
  | sl e => obtain ⟨A, cap, rfl, _⟩ := h; simp at hu; subst hu; rfl
  | nm n => exact RepN_one h u hu
  | opq => obtain ⟨v, rfl, h⟩ := h; simp at hu; subst hu; exact h

/-! Parts of a value. -/
theorem castTy_some {t t' : Ty} {x : t.den N.ρ} {y : t'.den N.ρ} (h : castTy N t t' x = some y) : ∃ e : t = t', y = e ▸ x := by
  unfold castTy at h
  split at h
  · rename_i e
    exact ⟨e, (Option.some.inj h).symm⟩
  · cases h

theorem castTy_rep {w : World} {ok : Nat → Prop} {t t' : Ty} {x : t.den N.ρ} {y : t'.den N.ρ} {cs : List Value} (h : castTy N t t' x = some y) (hr : Rep w ok t x cs) : Rep w ok t' y cs := by
  obtain ⟨e, rfl⟩ := castTy_some h
  subst e
  exact hr

theorem bif_none {β : Type} {b : Bool} {x : Option β} {y : β} (h : (bif b then x else none) = some y) : b = true ∧ x = some y := by
  cases b with
  | true => exact ⟨rfl, h⟩
  | false => cases h

theorem subL_rep {w : World} {ok : Nat → Prop} {want : Ty} {g : (t : Ty) → t.den N.ρ → Nat → Option (want.den N.ρ)}
    (hg : ∀ (t : Ty) (x : t.den N.ρ) off y cs, g t x off = some y → Rep w ok t x cs → Rep w ok want y ((cs.drop off).take (N.sz want)) ∧ off + N.sz want ≤ cs.length) :
    ∀ (ts : List Ty) (x : HL N.ρ ts) (off : Nat) (y : want.den N.ρ) (cs : List Value), subL g ts x off = some y → RepL w ok (RepN w ok) ts x cs → Rep w ok want y ((cs.drop off).take (N.sz want)) ∧ off + N.sz want ≤ cs.length
  | [], _, off, y, cs, h, _ => by cases h
  | t :: ts, x, off, y, cs, h, hr => by
    obtain ⟨c1, c2, rfl, h1, h2⟩ := hr
    have hl := Rep_length (show Rep w ok t x.1 c1 from h1)
    unfold subL at h
    cases hb : Nat.blt off (N.sz t) with
    | true =>
      rw [hb] at h
      have h0 : off < N.sz t := by simpa [Nat.blt_eq] using hb
      obtain ⟨k1, k2⟩ := hg t x.1 off y c1 h h1
      refine ⟨?_, by rw [List.length_append]; omega⟩
      rw [List.drop_append_of_le_length (by omega), List.take_append_of_le_length (by rw [List.length_drop]; omega)]
      exact k1
    | false =>
      rw [hb] at h
      have h0 : ¬ off < N.sz t := by rw [← Nat.blt_eq]; simp [hb]
      obtain ⟨k1, k2⟩ := subL_rep hg ts x.2 (off - N.sz t) y c2 h h2
      refine ⟨?_, by rw [List.length_append]; omega⟩
      rw [List.drop_append, List.drop_eq_nil_of_le (by omega), List.nil_append, hl]
      exact k1

theorem subAt_rep {w : World} {ok : Nat → Prop} {want : Ty} : ∀ (fuel : Nat) (t : Ty) (x : t.den N.ρ) (off : Nat) (y : want.den N.ρ) (cs : List Value),
    subAt want fuel t x off = some y → Rep w ok t x cs → Rep w ok want y ((cs.drop off).take (N.sz want)) ∧ off + N.sz want ≤ cs.length := by
  have base : ∀ (t : Ty) (x : t.den N.ρ) (off : Nat) (y : want.den N.ρ) (cs : List Value), (bif off == 0 then castTy N t want x else none) = some y → Rep w ok t x cs →
      Rep w ok want y ((cs.drop off).take (N.sz want)) ∧ off + N.sz want ≤ cs.length := by
    intro t x off y cs h hr
    obtain ⟨h0, h1⟩ := bif_none h
    have h0 : off = 0 := by simpa using h0
    subst h0
    have hy := castTy_rep h1 hr
    have hl := Rep_length hy
    rw [List.drop_zero, List.take_of_length_le (by omega)]
    exact ⟨hy, by omega⟩
  intro fuel
  induction fuel with
  | zero => intro t x off y cs h hr; exact base t x off y cs h hr
  | succ fuel ih =>
    intro t x off y cs h hr
    unfold subAt at h
    split at h
    · rename_i z hz
      cases h
      exact base t x off _ cs hz hr
    · split at h
      · rename_i n x'
        exact subL_rep (fun t x off y cs => ih t x off y cs) _ _ off y cs h (RepN_open hr)
      · cases h

/-- A stretch of cells is overwritten. -/
def splice (cs : List Value) (off : Nat) (vs : List Value) : List Value := cs.take off ++ vs ++ cs.drop (off + vs.length)

theorem splice_length {cs vs : List Value} {off : Nat} (h : off + vs.length ≤ cs.length) : (splice cs off vs).length = cs.length := by
  unfold splice
  simp only [List.length_append, List.length_take, List.length_drop]
  omega

theorem updL_rep {w : World} {ok : Nat → Prop} {vs : List Value} {g : (t : Ty) → t.den N.ρ → Nat → Option (t.den N.ρ)}
    (hg : ∀ (t : Ty) (x : t.den N.ρ) off y cs, g t x off = some y → Rep w ok t x cs → Rep w ok t y (splice cs off vs) ∧ off + vs.length ≤ cs.length) :
    ∀ (ts : List Ty) (x : HL N.ρ ts) (off : Nat) (y : HL N.ρ ts) (cs : List Value), updL g ts x off = some y → RepL w ok (RepN w ok) ts x cs → RepL w ok (RepN w ok) ts y (splice cs off vs) ∧ off + vs.length ≤ cs.length
  | [], _, off, y, cs, h, _ => by cases h
  | t :: ts, x, off, y, cs, h, hr => by
    obtain ⟨c1, c2, rfl, h1, h2⟩ := hr
    have hl := Rep_length (show Rep w ok t x.1 c1 from h1)
    unfold updL at h
    cases hb : Nat.blt off (N.sz t) with
    | true =>
      rw [hb] at h
      have h0 : off < N.sz t := by simpa [Nat.blt_eq] using hb
      simp only [cond_true, Option.map_eq_some_iff] at h
      obtain ⟨z, hz, rfl⟩ := h
      obtain ⟨k1, k2⟩ := hg t x.1 off z c1 hz h1
      refine ⟨⟨splice c1 off vs, c2, ?_, k1, h2⟩, by rw [List.length_append]; omega⟩
      unfold splice
      rw [List.take_append_of_le_length (by omega), List.drop_append_of_le_length (by omega)]
      simp
    | false =>
      rw [hb] at h
      have h0 : ¬ off < N.sz t := by rw [← Nat.blt_eq]; simp [hb]
      simp only [cond_false, Option.map_eq_some_iff] at h
      obtain ⟨z, hz, rfl⟩ := h
      obtain ⟨k1, k2⟩ := updL_rep hg ts x.2 (off - N.sz t) z c2 hz h2
      refine ⟨⟨c1, splice c2 (off - N.sz t) vs, ?_, h1, k1⟩, by rw [List.length_append]; omega⟩
      unfold splice
      rw [List.take_append, List.drop_append, List.take_of_length_le (by omega : c1.length ≤ off), List.drop_eq_nil_of_le (by omega : c1.length ≤ off + vs.length), hl]
      simp only [List.nil_append, List.append_assoc]
      congr 3
      rw [show off + vs.length - N.sz t = off - N.sz t + vs.length from by omega]

theorem updAt_rep {w : World} {ok : Nat → Prop} {v : TV N} {vs : List Value} (hv : Rep w ok v.t v.x vs) : ∀ (fuel : Nat) (t : Ty) (x : t.den N.ρ) (off : Nat) (y : t.den N.ρ) (cs : List Value),
    updAt v fuel t x off = some y → Rep w ok t x cs → Rep w ok t y (splice cs off vs) ∧ off + vs.length ≤ cs.length := by
  have base : ∀ (t : Ty) (x : t.den N.ρ) (off : Nat) (y : t.den N.ρ) (cs : List Value), (bif off == 0 then castTy N v.t t v.x else none) = some y → Rep w ok t x cs →
      Rep w ok t y (splice cs off vs) ∧ off + vs.length ≤ cs.length := by
    intro t x off y cs h hr
    obtain ⟨h0, h1⟩ := bif_none h
    have h0 : off = 0 := by simpa using h0
    subst h0
    have hy := castTy_rep h1 hv
    have hl := Rep_length hy
    have hl2 := Rep_length hr
    refine ⟨?_, by omega⟩
    unfold splice
    rw [List.take_zero, List.nil_append, List.drop_eq_nil_of_le (by omega), List.append_nil]
    exact hy
  intro fuel
  induction fuel with
  | zero => intro t x off y cs h hr; exact base t x off y cs h hr
  | succ fuel ih =>
    intro t x off y cs h hr
    unfold updAt at h
    split at h
    · rename_i z hz
      cases h
      exact base t x off _ cs hz hr
    · split at h
      · rename_i n x'
        simp only [Option.map_eq_some_iff] at h
        obtain ⟨z, hz, rfl⟩ := h
        obtain ⟨k1, k2⟩ := updL_rep (fun t x off y cs => ih t x off y cs) _ _ off z cs hz (RepN_open hr)
        refine ⟨RepN_close ?_, k2⟩
        rw [N.un_re]
        exact k1
      · cases h

theorem hlGet_rep {w : World} {ok : Nat → Prop} : ∀ (ts : List Ty) (x : HL N.ρ ts) (i : Nat) (v : TV N) (cs : List Value), hlGet ts x i = some v → RepL w ok (RepN w ok) ts x cs →
    Rep w ok v.t v.x ((cs.drop (offL N ts i)).take (N.sz v.t)) ∧ offL N ts i + N.sz v.t ≤ cs.length
  | [], _, i, v, cs, h, _ => by cases h
  | t :: ts, x, 0, v, cs, h, hr => by
    obtain ⟨c1, c2, rfl, h1, h2⟩ := hr
    have hl := Rep_length (show Rep w ok t x.1 c1 from h1)
    simp only [hlGet, Option.some.injEq] at h
    subst h
    simp only [offL]
    refine ⟨?_, by rw [List.length_append]; omega⟩
    rw [List.drop_zero, List.take_append_of_le_length (by omega), List.take_of_length_le (by omega)]
    exact h1
  | t :: ts, x, i + 1, v, cs, h, hr => by
    obtain ⟨c1, c2, rfl, h1, h2⟩ := hr
    have hl := Rep_length (show Rep w ok t x.1 c1 from h1)
    obtain ⟨k1, k2⟩ := hlGet_rep ts x.2 i v c2 (by simpa [hlGet] using h) h2
    simp only [offL]
    refine ⟨?_, by rw [List.length_append]; omega⟩
    rw [List.drop_append, List.drop_eq_nil_of_le (by omega), List.nil_append, hl, show N.sz t + offL N ts i - N.sz t = offL N ts i from by omega]
    exact k1

end Go.Eng
