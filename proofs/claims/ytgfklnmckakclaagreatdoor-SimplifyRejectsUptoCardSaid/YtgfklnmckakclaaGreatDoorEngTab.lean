/- The engine: a program's table of types, checked by computation. -/
import Derived.Test.YtgfklnmckakclaaGreatDoorEngZ
set_option linter.unusedVariables false
set_option linter.unusedSimpArgs false
namespace Go.Eng
variable {N : Names} {P : Program}

def zeroL (g : Ty → List Value → Bool) (sz : Ty → Nat) : List Ty → List Value → Bool
  | [], cs => cs.isEmpty
  | t :: ts, cs => g t (cs.take (sz t)) && zeroL g sz ts (cs.drop (sz t))

def zeroOk (N : Names) : Nat → Ty → List Value → Bool
  | _, .int k, [.int k' n] => decide (k' = k) && decide (n = 0)
  | _, .bool, [.bool b] => !b
  | _, .str, [.string s] => s.data.toList.isEmpty
  | _, .sl _, [.slice none 0 0] => true
  | _, .opq, [v] => v.oneCell'
  | f + 1, .nm n, cs => zeroL (zeroOk N f) N.sz (N.body n) cs
  | _, _, _ => false

def dfltL (N : Names) : (ts : List Ty) → HL N.ρ ts
  | [] => ()
  | t :: ts => (N.dflt t, dfltL N ts)

theorem zeroOk_rep (hdv : ∀ n, N.un n (N.dv n) = dfltL N (N.body n)) (w : World) (ok : Nat → Prop) : ∀ (f : Nat) (t : Ty) (cs : List Value), zeroOk N f t cs = true → Rep w ok t (N.dflt t) cs := by
  have one : ∀ (g : Ty → List Value → Bool) (hg : ∀ t cs, g t cs = true → Rep w ok t (N.dflt t) cs) (ts : List Ty) (cs : List Value), zeroL g N.sz ts cs = true → RepL w ok (RepN w ok) ts (dfltL N ts) cs := by
    intro g hg ts
    induction ts with
    | nil =>
      intro cs h
      simp only [zeroL, List.isEmpty_iff] at h
      exact h
    | cons t ts ih =>
      intro cs h
      simp only [zeroL, Bool.and_eq_true] at h
      exact ⟨_, _, (List.take_append_drop _ cs).symm, hg _ _ h.1, ih _ h.2⟩
  intro f
  induction f with
  | zero =>
    intro t cs h
    unfold zeroOk at h
    split at h
    · simp only [Bool.and_eq_true, decide_eq_true_eq] at h
      obtain ⟨rfl, rfl⟩ := h
      rfl
    · rename_i b
      cases b with
      | true => cases h
      | false => rfl
    · rename_i s
      refine ⟨s, rfl, ?_⟩
      simp only [List.isEmpty_iff] at h
      unfold bytesL
      rw [h]
      rfl
    · exact ⟨none, 0, rfl, Nat.le_refl _, fun _ => rfl, fun i x hx => by simp [Names.dflt] at hx⟩
    · exact ⟨_, rfl, h⟩
    · rename_i h0
      cases h0
    · cases h
  | succ f ih =>
    intro t cs h
    unfold zeroOk at h
    split at h
    · simp only [Bool.and_eq_true, decide_eq_true_eq] at h
      obtain ⟨rfl, rfl⟩ := h
      rfl
    · rename_i b
      cases b with
      | true => cases h
      | false => rfl
    · rename_i s
      refine ⟨s, rfl, ?_⟩
      simp only [List.isEmpty_iff] at h
      unfold bytesL
      rw [h]
      rfl
    · exact ⟨none, 0, rfl, Nat.le_refl _, fun _ => rfl, fun i x hx => by simp [Names.dflt] at hx⟩
    · exact ⟨_, rfl, h⟩
    · rename_i n hf
      cases hf
      refine RepN_close ?_
      rw [show N.un n (N.dflt (.nm n)) = dfltL N (N.body n) from hdv n]
      exact one _ ih _ _ h
    · cases h

def infoOk (P : Program) (t : TypeId) (n : Nat) (z : Value → Bool) : Bool := match P.info? t with
  | some i => (match i.zero with | some v => z v | none => false) && decide (i.size = n) && Nat.ble i.bytes 32768
  | none => false

theorem infoOk_spec {t : TypeId} {n : Nat} {z : Value → Bool} (h : infoOk P t n z = true) : ∃ v, z v = true ∧ Info P t v n := by
  unfold infoOk at h
  split at h
  · rename_i i hi
    simp only [Bool.and_eq_true, decide_eq_true_eq] at h
    obtain ⟨⟨h1, h2⟩, h3⟩ := h
    split at h1
    · rename_i v hv
      exact ⟨v, h1, i, hi, hv, h2, Nat.le_of_ble_eq_true h3⟩
    · cases h1
  · cases h

def fieldsOk (N : Names) (τ : TypeId → Option TI) : List Ty → Nat → List Field → Bool
  | [], _, [] => true
  | ty :: tys, off, f :: fs => decide (f.offset = off) && (match τ f.type with | some ti => decide (ti.ty = ty) | none => false) && !(decide (N.sz ty = 0)) && !(decide (f.name = "_")) && fieldsOk N τ tys (off + N.sz ty) fs
  | _, _, _ => false

theorem fieldsOk_spec {τ : TypeId → Option TI} : ∀ (tys : List Ty) (off : Nat) (fs : List Field), fieldsOk N τ tys off fs = true → FieldsFit N τ tys off fs
  | [], _, [], _ => trivial
  | [], _, _ :: _, h => by cases h
  | _ :: _, _, [], h => by cases h
  | ty :: tys, off, f :: fs, h => by
    simp only [fieldsOk, Bool.and_eq_true, decide_eq_true_eq, Bool.not_eq_true', decide_eq_false_iff_not] at h
    obtain ⟨⟨⟨⟨h1, h2⟩, h3⟩, h4⟩, h5⟩ := h
    refine ⟨h1, ?_, h3, h4, fieldsOk_spec tys _ fs h5⟩
    split at h2
    · rename_i ti hti
      have : ti.ty = ty := by simpa using h2
      exact ⟨ti.el, by rw [hti, ← this]⟩
    · cases h2

def isOne (k : Value → Bool) : Value → Bool := k

def fitRow (P : Program) (N : Names) (τ : TypeId → Option TI) (t : TypeId) (ti : TI) : Bool :=
  match ti.ty with
  | .int k => (match P.underlying t with | some (.int k') => decide (k' = k) | _ => false) && infoOk P t 1 fun v => match v with | .int k' n => decide (k' = k) && decide (n = 0) | _ => false
  | .bool => (match P.underlying t with | some .bool => true | _ => false) && infoOk P t 1 fun v => match v with | .bool b => !b | _ => false
  | .str => (match P.underlying t with | some .string => true | _ => false) && infoOk P t 1 fun v => match v with | .string s => s.data.toList.isEmpty | _ => false
  | .sl e => (match P.underlying t with | some (.slice el) => decide (el = ti.el) | _ => false) && (match τ ti.el with | some te => decide (te.ty = e) | none => false) && infoOk P t 1 fun v => match v with | .slice none 0 0 => true | _ => false
  | .opq => (match P.underlying t with | some (.struct _) => false | some (.array _ _) => false | some _ => true | none => false) && (decide (ti.el = 0) || (match P.underlying t with | some (.map k v) => decide (k = ti.el / 100000) && decide (v = ti.el % 100000) | _ => false)) && infoOk P t 1 fun v => v.oneCell'
  | .nm n => (match P.underlying t with | some (.struct fs) => decide (ti.el = 0) && fieldsOk N τ (N.body n) 0 fs.toList | some (.array len el) => decide (ti.el = el + 1) && (match P.info? el with | some i => fieldsOk N τ (N.body n) 0 (virt len el i.size) | none => false) | _ => false) && !P.stoodInHeld t && !P.eqGuardType P.depth t && Nat.blt 0 (N.size n) &&
      infoOk P t (N.size n) fun v => match v with | .agg zc => zeroOk N 8 (.nm n) zc.toList | _ => false

theorem fits_of {l : List (TypeId × TI)} (hdv : ∀ n, N.un n (N.dv n) = dfltL N (N.body n)) (h : (l.all fun p => fitRow P N (look l) p.1 p.2) = true) : Fits P N (look l) := by
  have key : ∀ t ti, look l t = some ti → fitRow P N (look l) t ti = true := fun t ti ht => List.all_eq_true.1 h _ (look_mem ht)
  constructor
  · intro t k e ht
    have := key t _ ht
    simp only [fitRow, Bool.and_eq_true] at this
    obtain ⟨h1, h2⟩ := this
    obtain ⟨v, hv, hi⟩ := infoOk_spec h2
    constructor
    · split at h1
      · rename_i k' hk
        rw [hk]
        have : k' = k := by simpa using h1
        rw [this]
      · cases h1
    · split at hv
      · simp only [Bool.and_eq_true, decide_eq_true_eq] at hv
        obtain ⟨rfl, rfl⟩ := hv
        exact hi
      · cases hv
  · intro t e ht
    have := key t _ ht
    simp only [fitRow, Bool.and_eq_true] at this
    obtain ⟨h1, h2⟩ := this
    obtain ⟨v, hv, hi⟩ := infoOk_spec h2
    constructor
    · split at h1
      · assumption
      · cases h1
    · split at hv
      · rename_i b
        cases b with
        | true => cases hv
        | false => exact hi
      · cases hv
  · intro t e ht
    have := key t _ ht
    simp only [fitRow, Bool.and_eq_true] at this
    obtain ⟨h1, h2⟩ := this
    obtain ⟨v, hv, hi⟩ := infoOk_spec h2
    constructor
    · split at h1
      · assumption
      · cases h1
    · split at hv
      · rename_i s
        obtain ⟨⟨l⟩⟩ := s
        have : l = [] := by simpa using hv
        subst this
        exact hi
      · cases hv
  · intro t ty e ht
    have := key t _ ht
    simp only [fitRow, Bool.and_eq_true] at this
    obtain ⟨⟨h1, h3⟩, h2⟩ := this
    obtain ⟨v, hv, hi⟩ := infoOk_spec h2
    refine ⟨?_, ?_, ?_⟩
    · split at h1
      · rename_i el hel
        rw [hel]
        have : el = e := by simpa using h1
        rw [this]
      · cases h1
    · split at h3
      · rename_i te hte
        have : te.ty = ty := by simpa using h3
        exact ⟨te.el, by rw [hte, ← this]⟩
      · cases h3
    · split at hv
      · exact hi
      · cases hv
  · intro t e ht
    have := key t _ ht
    simp only [fitRow, Bool.and_eq_true] at this
    obtain ⟨⟨h1, _⟩, h2⟩ := this
    obtain ⟨v, hv, hi⟩ := infoOk_spec h2
    refine ⟨?_, v, hi, hv⟩
    split at h1
    · cases h1
    · cases h1
    · rename_i d hn1 hn2 hd
      refine ⟨_, hd, ?_⟩
      split
      · rename_i fs
        exact (hn1 fs rfl).elim
      · rename_i n e
        exact (hn2 n e rfl).elim
      · rfl
    · cases h1
  · intro t e ht
    have := key t _ ht
    simp only [fitRow, Bool.and_eq_true, Bool.or_eq_true, decide_eq_true_eq] at this
    obtain ⟨⟨_, h1⟩, _⟩ := this
    rcases h1 with h1 | h1
    · exact .inl h1
    · right
      split at h1
      · rename_i k v hkv
        simp only [Bool.and_eq_true, decide_eq_true_eq] at h1
        rw [hkv, h1.1, h1.2]
      · cases h1
  · intro t n e ht
    have := key t _ ht
    simp only [fitRow, Bool.and_eq_true, Bool.not_eq_true'] at this
    obtain ⟨⟨⟨⟨h1, h2⟩, h3⟩, h4⟩, h5⟩ := this
    obtain ⟨v, hv, hi⟩ := infoOk_spec h5
    have hz : ∃ zc : Array Value, Info P t (.agg zc) (N.size n) ∧ 0 < N.size n ∧ ∀ w ok, Rep w ok (.nm n) (N.dv n) zc.toList := by
      split at hv
      · rename_i zc
        exact ⟨zc, hi, Nat.le_of_ble_eq_true h4, fun w ok => zeroOk_rep hdv w ok 8 (.nm n) _ hv⟩
      · cases hv
    split at h1
    · rename_i fs hfs
      simp only [Bool.and_eq_true, decide_eq_true_eq] at h1
      exact ⟨fs, .inl ⟨h1.1, hfs⟩, fieldsOk_spec _ _ _ h1.2, h2, h3, hz⟩
    · rename_i len el hfs
      simp only [Bool.and_eq_true, decide_eq_true_eq] at h1
      obtain ⟨h0, h1⟩ := h1
      split at h1
      · rename_i i hi'
        exact ⟨_, .inr ⟨len, el, i, h0, hfs, hi', rfl⟩, fieldsOk_spec _ _ _ (by simpa using h1), h2, h3, hz⟩
      · cases h1
    · cases h1

end Go.Eng
