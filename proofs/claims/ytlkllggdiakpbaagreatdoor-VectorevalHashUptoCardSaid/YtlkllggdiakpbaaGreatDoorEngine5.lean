/- The engine: a program's table of types, checked by computation.
The engine: a law's arguments, as they are read, are values; what they measure is at most the bulk of the reading.
Plain facts that the laws' own proofs use: wrapping, indices, counts.
The engine: the library's strings.Compare, as the kit's shelf has it.
Plain facts on words of bits: wrapping, the operations on bits at numbers that are not negative, a number's bytes. -/
import Derived.Test.YtlkllggdiakpbaaGreatDoorEngine4
import Derived.WalkKit
import Derived.ProofKit
import Derived.OpenShut
import Derived.JoinedCond
import Derived.ChangeArms
import Derived.ChangeOld
import Derived.WideShapes
import Derived.Carry
import Derived.Lib.Bytealg
set_option linter.unusedVariables false
set_option linter.unusedSimpArgs false
namespace Go.Eng
variable {N : Names} {P : Program}
def dfltL (N : Names) : (ts : List Ty) → HL N.ρ ts
 | [] => ()
 | t :: ts => (N.dflt t, dfltL N ts)
theorem zeroOk_rep (hdv : ∀ n, N.un n (N.dv n) = dfltL N (N.body n)) (w : World) (ok : Nat → Prop) : ∀ (f : Nat) (t : Ty) (cs : List Value), zeroOk N f t cs = true → Rep w ok t (N.dflt t) cs := by
 have one : ∀ (g : Ty → List Value → Bool) (hg : ∀ t cs, g t cs = true → Rep w ok t (N.dflt t) cs) (ts : List Ty) (cs : List Value), zeroL g N.sz ts cs = true → RepL w ok (RepN w ok) ts (dfltL N ts) cs := by
  intro g hg ts
  induction ts with
  | nil =>
   intro cs h
   simp only [zeroL, List.isEmpty_iff] at h
   exact h
  | cons t ts ih =>
   intro cs h
   simp only [zeroL, Bool.and_eq_true] at h
   exact ⟨_, _, (List.take_append_drop _ cs).symm, hg _ _ h.1, ih _ h.2⟩
 intro f
 induction f with
 | zero =>
  intro t cs h
  unfold zeroOk at h
  split at h
  ·simp only [Bool.and_eq_true, decide_eq_true_eq] at h
   obtain ⟨rfl, rfl⟩ := h
   rfl
  ·rename_i b
   cases b with
   | true => cases h
   | false => rfl
  ·rename_i s
   refine ⟨s, rfl, ?_⟩
   simp only [List.isEmpty_iff] at h
   unfold bytesL
   rw [h]
   rfl
  ·exact ⟨none, 0, rfl, Nat.le_refl _, fun _ => rfl, fun i x hx => by simp [Names.dflt] at hx⟩
  ·exact ⟨_, rfl, h⟩
  ·rename_i h0
   cases h0
  ·cases h
 | succ f ih =>
  intro t cs h
  unfold zeroOk at h
  split at h
  ·simp only [Bool.and_eq_true, decide_eq_true_eq] at h
   obtain ⟨rfl, rfl⟩ := h
   rfl
  ·rename_i b
   cases b with
   | true => cases h
   | false => rfl
  ·rename_i s
   refine ⟨s, rfl, ?_⟩
   simp only [List.isEmpty_iff] at h
   unfold bytesL
   rw [h]
   rfl
  ·exact ⟨none, 0, rfl, Nat.le_refl _, fun _ => rfl, fun i x hx => by simp [Names.dflt] at hx⟩
  ·exact ⟨_, rfl, h⟩
  ·rename_i n hf
   cases hf
   refine RepN_close ?_
   rw [show N.un n (N.dflt (.nm n)) = dfltL N (N.body n) from hdv n]
   exact one _ ih _ _ h
  ·cases h
def infoOk (P : Program) (t : TypeId) (n : Nat) (z : Value → Bool) : Bool := match P.info? t with
 | some i => (match i.zero with | some v => z v | none => false) && decide (i.size = n) && Nat.ble i.bytes 32768
 | none => false
theorem infoOk_spec {t : TypeId} {n : Nat} {z : Value → Bool} (h : infoOk P t n z = true) : ∃ v, z v = true ∧ Info P t v n := by
 unfold infoOk at h
 split at h
 ·rename_i i hi
  simp only [Bool.and_eq_true, decide_eq_true_eq] at h
  obtain ⟨⟨h1, h2⟩, h3⟩ := h
  split at h1
  ·rename_i v hv
   exact ⟨v, h1, i, hi, hv, h2, Nat.le_of_ble_eq_true h3⟩
  ·cases h1
 ·cases h
def fieldsOk (N : Names) (τ : TypeId → Option TI) : List Ty → Nat → List Field → Bool
 | [], _, [] => true
 | ty :: tys, off, f :: fs => decide (f.offset = off) && (match τ f.type with | some ti => decide (ti.ty = ty) | none => false) && !(decide (N.sz ty = 0)) && !(decide (f.name = "_")) && fieldsOk N τ tys (off + N.sz ty) fs
 | _, _, _ => false
theorem fieldsOk_spec {τ : TypeId → Option TI} : ∀ (tys : List Ty) (off : Nat) (fs : List Field), fieldsOk N τ tys off fs = true → FieldsFit N τ tys off fs
 | [], _, [], _ => trivial
 | [], _, _ :: _, h => by cases h
 | _ :: _, _, [], h => by cases h
 | ty :: tys, off, f :: fs, h => by
  simp only [fieldsOk, Bool.and_eq_true, decide_eq_true_eq, Bool.not_eq_true', decide_eq_false_iff_not] at h
  obtain ⟨⟨⟨⟨h1, h2⟩, h3⟩, h4⟩, h5⟩ := h
  refine ⟨h1, ?_, h3, h4, fieldsOk_spec tys _ fs h5⟩
  split at h2
  ·rename_i ti hti
   have : ti.ty = ty := by simpa using h2
   exact ⟨ti.el, by rw [hti, ← this]⟩
  ·cases h2
def isOne (k : Value → Bool) : Value → Bool := k
def fitRow (P : Program) (N : Names) (τ : TypeId → Option TI) (t : TypeId) (ti : TI) : Bool :=
 match ti.ty with
 | .int k => (match P.underlying t with | some (.int k') => decide (k' = k) | _ => false) && infoOk P t 1 fun v => match v with | .int k' n => decide (k' = k) && decide (n = 0) | _ => false
 | .bool => (match P.underlying t with | some .bool => true | _ => false) && infoOk P t 1 fun v => match v with | .bool b => !b | _ => false
 | .str => (match P.underlying t with | some .string => true | _ => false) && infoOk P t 1 fun v => match v with | .string s => s.data.toList.isEmpty | _ => false
 | .sl e => Nat.blt ti.el tagM && (match P.underlying t with | some (.slice el) => decide (el = ti.el) | _ => false) && (match τ ti.el with | some te => decide (te.ty = e) | none => false) && infoOk P t 1 fun v => match v with | .slice none 0 0 => true | _ => false
 | .opq => (match P.underlying t with | some (.struct _) => false | some (.array _ _) => false | some _ => true | none => false) && (decide (ti.el = 0) || (match P.underlying t with | some (.map k v) => decide (k = ti.el / 100000) && decide (v = ti.el % 100000) | _ => false)) && infoOk P t 1 fun v => v.oneCell'
 | .nm n => (match P.underlying t with | some (.struct fs) => decide (ti.el = 0) && fieldsOk N τ (N.body n) 0 fs.toList | some (.array len el) => decide (ti.el = el + 1) && (match P.info? el with | some i => fieldsOk N τ (N.body n) 0 (virt len el i.size) | none => false) | _ => false) && !P.stoodInHeld t && !P.eqGuardType P.depth t && Nat.blt 0 (N.size n) &&
   infoOk P t (N.size n) fun v => match v with | .agg zc => zeroOk N 8 (.nm n) zc.toList | _ => false
theorem fits_of {l : List (TypeId × TI)} (hdv : ∀ n, N.un n (N.dv n) = dfltL N (N.body n)) (h : (l.all fun p => fitRow P N (look l) p.1 p.2) = true) : Fits P N (look l) := by
 have key : ∀ t ti, look l t = some ti → fitRow P N (look l) t ti = true := fun t ti ht => List.all_eq_true.1 h _ (look_mem ht)
 constructor
 ·intro t k e ht
  have := key t _ ht
  simp only [fitRow, Bool.and_eq_true] at this
  obtain ⟨h1, h2⟩ := this
  obtain ⟨v, hv, hi⟩ := infoOk_spec h2
  constructor
  ·split at h1
   ·rename_i k' hk
    rw [hk]
    have : k' = k := by simpa using h1
    rw [this]
   ·cases h1
  ·split at hv
   ·simp only [Bool.and_eq_true, decide_eq_true_eq] at hv
    obtain ⟨rfl, rfl⟩ := hv
    exact hi
   ·cases hv
 ·intro t e ht
  have := key t _ ht
  simp only [fitRow, Bool.and_eq_true] at this
  obtain ⟨h1, h2⟩ := this
  obtain ⟨v, hv, hi⟩ := infoOk_spec h2
  constructor
  ·split at h1
   ·assumption
   ·cases h1
  ·split at hv
   ·rename_i b
    cases b with
    | true => cases hv
    | false => exact hi
   ·cases hv
 ·intro t e ht
  have := key t _ ht
  simp only [fitRow, Bool.and_eq_true] at this
  obtain ⟨h1, h2⟩ := this
  obtain ⟨v, hv, hi⟩ := infoOk_spec h2
  constructor
  ·split at h1
   ·assumption
   ·cases h1
  ·split at hv
   ·rename_i s
    obtain ⟨⟨l⟩⟩ := s
    have : l = [] := by simpa using hv
    subst this
    exact hi
   ·cases hv
 ·intro t ty e ht
  have := key t _ ht
  simp only [fitRow, Bool.and_eq_true] at this
  obtain ⟨⟨⟨_, h1⟩, h3⟩, h2⟩ := this
  obtain ⟨v, hv, hi⟩ := infoOk_spec h2
  refine ⟨?_, ?_, ?_⟩
  ·split at h1
   ·rename_i el hel
    rw [hel]
    have : el = e := by simpa using h1
    rw [this]
   ·cases h1
  ·split at h3
   ·rename_i te hte
    have : te.ty = ty := by simpa using h3
    exact ⟨te.el, by rw [hte, ← this]⟩
   ·cases h3
  ·split at hv
   ·exact hi
   ·cases hv
 ·intro t e ht
  have := key t _ ht
  simp only [fitRow, Bool.and_eq_true] at this
  obtain ⟨⟨h1, _⟩, h2⟩ := this
  obtain ⟨v, hv, hi⟩ := infoOk_spec h2
  refine ⟨?_, v, hi, hv⟩
  split at h1
  ·cases h1
  ·cases h1
  ·rename_i d hn1 hn2 hd
   refine ⟨_, hd, ?_⟩
   split
   ·rename_i fs
    exact (hn1 fs rfl).elim
   ·rename_i n e
    exact (hn2 n e rfl).elim
   ·rfl
  ·cases h1
 ·intro t e ht
  have := key t _ ht
  simp only [fitRow, Bool.and_eq_true, Bool.or_eq_true, decide_eq_true_eq] at this
  obtain ⟨⟨_, h1⟩, _⟩ := this
  rcases h1 with h1 | h1
  ·exact .inl h1
  ·right
   split at h1
   ·rename_i k v hkv
    simp only [Bool.and_eq_true, decide_eq_true_eq] at h1
    rw [hkv, h1.1, h1.2]
   ·cases h1
 ·intro t n e ht
  have := key t _ ht
  simp only [fitRow, Bool.and_eq_true, Bool.not_eq_true'] at this
  obtain ⟨⟨⟨⟨h1, h2⟩, h3⟩, h4⟩, h5⟩ := this
  obtain ⟨v, hv, hi⟩ := infoOk_spec h5
  have hz : ∃ zc : Array Value, Info P t (.agg zc) (N.size n) ∧ 0 < N.size n ∧ ∀ w ok, Rep w ok (.nm n) (N.dv n) zc.toList := by
   split at hv
   ·rename_i zc
    exact ⟨zc, hi, Nat.le_of_ble_eq_true h4, fun w ok => zeroOk_rep hdv w ok 8 (.nm n) _ hv⟩
   ·cases hv
  split at h1
  ·rename_i fs hfs
   simp only [Bool.and_eq_true, decide_eq_true_eq] at h1
   exact ⟨fs, .inl ⟨h1.1, hfs⟩, fieldsOk_spec _ _ _ h1.2, h2, h3, hz⟩
  ·rename_i len el hfs
   simp only [Bool.and_eq_true, decide_eq_true_eq] at h1
   obtain ⟨h0, h1⟩ := h1
   split at h1
   ·rename_i i hi'
    exact ⟨_, .inr ⟨len, el, i, h0, hfs, hi', rfl⟩, fieldsOk_spec _ _ _ (by simpa using h1), h2, h3, hz⟩
   ·cases h1
  ·cases h1
 ·intro t n e i zc ht hi hz
  have := key t _ ht
  simp only [fitRow, Bool.and_eq_true] at this
  obtain ⟨v, hv, j, hj1, hj2, _⟩ := infoOk_spec this.2
  rw [hi] at hj1
  cases hj1
  rw [hz] at hj2
  cases hj2
  exact hv
 ·intro t ty e ht
  have := key t _ ht
  simp only [fitRow, Bool.and_eq_true] at this
  exact Nat.le_of_ble_eq_true this.1.1.1
end Go.Eng

set_option linter.unusedVariables false
set_option linter.unusedSimpArgs false
namespace Go.Eng
variable {N : Names} {P : Program} {H : Type} {enc : TypeId × Value → H} {w : World} {τ : TypeId → Option TI}
/-! How great a value is; whether its numbers are of their kinds. -/
def sumL {α : Type} (f : α → Nat) : List α → Nat
 | [] => 0
 | x :: r => f x + sumL f r
def measT (g : (n : Nat) → N.ρ n → Nat) : (t : Ty) → t.den N.ρ → Nat
 | .int _, _ => 1
 | .bool, _ => 1
 | .str, l => l.length + 1
 | .sl e, xs => sumL (measT g e) xs + 1
 | .nm n, x => g n x
 | .opq, _ => 1
def measL (g : (n : Nat) → N.ρ n → Nat) : (ts : List Ty) → HL N.ρ ts → Nat
 | [], _ => 0
 | t :: ts, x => measT g t x.1 + measL g ts x.2
def measK (N : Names) : Nat → (n : Nat) → N.ρ n → Nat
 | 0, _, _ => 1
 | k + 1, n, x => measL (measK N k) (N.body n) (N.un n x) + 1
def meas (k : Nat) (t : Ty) (x : t.den N.ρ) : Nat := measT (measK N k) t x
def okT (g : (n : Nat) → N.ρ n → Prop) : (t : Ty) → t.den N.ρ → Prop
 | .int k, n => (Lit.int k n).wf = true
 | .bool, _ => True
 | .str, l => ∀ b ∈ l, 0 ≤ b ∧ b < 256
 | .sl e, xs => ∀ x ∈ xs, okT g e x
 | .nm n, x => g n x
 | .opq, _ => True
def okL (g : (n : Nat) → N.ρ n → Prop) : (ts : List Ty) → HL N.ρ ts → Prop
 | [], _ => True
 | t :: ts, x => okT g t x.1 ∧ okL g ts x.2
def okK (N : Names) : Nat → (n : Nat) → N.ρ n → Prop
 | 0, _, _ => True
 | k + 1, n, x => okL (okK N k) (N.body n) (N.un n x)
def okV (k : Nat) (t : Ty) (x : t.den N.ρ) : Prop := okT (okK N k) t x
mutual
def bulk {H : Type} : DataW H → Nat
 | .lit (.string bytes) => bytes.length + 1
 | .lit _ => 1
 | .nil => 1
 | .ptr d => bulk d + 1
 | .slice elems spare => bulkAll elems + bulkAll spare + 1
 | .agg parts => bulkAll parts + 1
 | .iface _ d => bulk d + 1
 | .map entries => bulkEntries entries + 1
 | .held _ => 1
def bulkAll {H : Type} : List (DataW H) → Nat
 | [] => 0
 | d :: r => bulk d + bulkAll r
def bulkEntries {H : Type} : List (Lit × DataW H) → Nat
 | [] => 0
 | x :: r => bulkEntry x + bulkEntries r
def bulkEntry {H : Type} : Lit × DataW H → Nat
 | (.string bytes, d) => bytes.length + bulk d + 1
 | (_, d) => bulk d + 1
end
theorem bulk_pos (d : DataW H) : 1 ≤ bulk d := by
 cases d with
 | lit l => cases l <;> simp [bulk]
 | _ => simp [bulk]
theorem sumL_le {α : Type} {f : α → Nat} : ∀ (xs : List α) (ds : List (DataW H)), xs.length = ds.length → (∀ (i : Nat) x d, xs[i]? = some x → ds[i]? = some d → f x ≤ bulk d) → sumL f xs ≤ bulkAll ds
 | [], _, _, _ => Nat.zero_le _
 | x :: xs, [], h, _ => by simp at h
 | x :: xs, d :: ds, h, hx => by
  have h1 := hx 0 x d rfl rfl
  have h2 := sumL_le (f := f) xs ds (by simpa using h) (fun i x d hi hd => hx (i + 1) x d (by simpa using hi) (by simpa using hd))
  simp only [sumL, bulkAll]
  omega
theorem choose_list {α : Type} {Q : Nat → α → Prop} : ∀ (n : Nat), (∀ i, i < n → ∃ x, Q i x) → ∃ xs : List α, xs.length = n ∧ ∀ (i : Nat) x, xs[i]? = some x → Q i x
 | 0, _ => ⟨[], rfl, fun i x h => by simp at h⟩
 | n + 1, h => by
  obtain ⟨xs, h1, h2⟩ := choose_list n (fun i hi => h i (by omega))
  obtain ⟨x, hx⟩ := h n (by omega)
  refine ⟨xs ++ [x], by simp [h1], fun i y hy => ?_⟩
  rcases Nat.lt_or_ge i n with hi | hi
  ·rw [List.getElem?_append_left (by omega)] at hy
   exact h2 i y hy
  ·rw [List.getElem?_append_right (by omega)] at hy
   rcases Nat.eq_or_lt_of_le (show 0 ≤ i - xs.length from Nat.zero_le _) with h0 | h0
   ·rw [← h0] at hy
    simp only [List.getElem?_cons_zero, Option.some.injEq] at hy
    subst hy
    rw [show i = n from by omega]
    exact hx
   ·obtain ⟨m, hm⟩ : ∃ m, i - xs.length = m + 1 := ⟨i - xs.length - 1, by omega⟩
    rw [hm] at hy
    simp at hy
theorem cellsOf_eq (F : Fits P N τ) {t e : TypeId} {ty : Ty} (h : τ t = some ⟨ty, e⟩) : P.cellsOf t = N.sz ty := by
 obtain ⟨i, z, zc, h1, h2, h3, _⟩ := F.info h
 simp [Program.cellsOf, h1, h3]
theorem bytesL_range (s : ByteArray) : ∀ b ∈ bytesL s, 0 ≤ b ∧ b < 256 := by
 intro b hb
 unfold bytesL at hb
 obtain ⟨u, _, rfl⟩ := List.mem_map.1 hb
 have := u.toNat_lt
 omega
theorem opq_one {sp : Nat → Bool} {held : Bool} {fuel : Nat} {t : TypeId} {d0 : TypeDesc} {cs : List Value} {x : DataW H × List MemPlace} (hn : (match d0 with | .struct _ | .array _ _ => true | _ => false) = false) (hu : P.underlying t = some d0)
  (h : DataW.trod enc P w 0 sp held fuel t cs = some x) : ∃ v, cs = [v] ∧ v.oneCell' = true := by
 cases fuel with
 | zero => simp [DataW.trod] at h
 | succ n =>
  unfold DataW.trod at h
  rw [hu] at h
  split at h <;> first | exact ⟨_, rfl, rfl⟩ | (simp_all; done) | (rename_i heq; cases heq; cases hn)
theorem rep_of_trod (F : Fits P N τ) {sp : Nat → Bool} {held : Bool} : ∀ (fuel : Nat) (t : TypeId) (ty : Ty) (e : TypeId) (cs : List Value) (d : DataW H) (ps : List MemPlace), τ t = some ⟨ty, e⟩ → DataW.trod enc P w 0 sp held fuel t cs = some (d, ps) →
  ∃ x : ty.den N.ρ, Rep w (fun b => b < w.heap.size) ty x cs ∧ (∀ k, meas k ty x ≤ bulk d) ∧ ∀ k, okV k ty x := by
 intro fuel
 induction fuel with
 | zero => intro t ty e cs d ps _ h; simp [DataW.trod] at h
 | succ fuel ih =>
  intro t ty e cs d ps hτ h
  cases ty with
  | int k =>
   obtain ⟨n, h1, h2, h3⟩ := DataW.trod_int (F.int t k e hτ).1 h
   cases h2
   exact ⟨n, h1, fun _ => Nat.le_refl _, fun _ => h3⟩
  | bool =>
   obtain ⟨b, h1, h2⟩ := DataW.trod_bool (F.bool t e hτ).1 h
   cases h2
   exact ⟨b, h1, fun _ => Nat.le_refl _, fun _ => trivial⟩
  | str =>
   obtain ⟨s, h1, h2, h3⟩ := DataW.trod_string (F.str t e hτ).1 h
   cases h2
   refine ⟨bytesL s, ⟨s, h1, rfl⟩, fun _ => ?_, fun _ => bytesL_range s⟩
   simp [meas, measT, bulk, bytesL]
  | opq =>
   obtain ⟨⟨d0, u1, u2⟩, _⟩ := F.opq t e hτ
   obtain ⟨v, hv, hv1⟩ := opq_one u2 u1 h
   exact ⟨(), ⟨v, hv, hv1⟩, fun _ => bulk_pos d, fun _ => trivial⟩
  | sl ty' =>
   obtain ⟨u1, ⟨e', u2⟩, _⟩ := F.sl t ty' e hτ
   rcases DataW.trod_slice u1 h with ⟨rfl, hx⟩ | ⟨a, len, cap, elems, rest, n, hn, rfl, hx, _, hlc, _, hlen, hel, _, _⟩
   ·cases hx
    exact ⟨[], ⟨none, 0, rfl, Nat.le_refl _, fun _ => rfl, fun i x hi => by simp at hi⟩, fun _ => Nat.le_refl _, fun _ x hx => by cases hx⟩
   ·cases hn
    have hc := cellsOf_eq F u2
    have hpos := F.pos u2
    have each : ∀ i, i < len → ∃ x : ty'.den N.ρ, ∃ ccs d', w.cells? 0 (a.add (i * N.sz ty')) (N.sz ty') = some ccs ∧ (elems.map (·.1))[i]? = some d' ∧ Rep w (fun b => b < w.heap.size) ty' x ccs ∧ (∀ k, meas k ty' x ≤ bulk d') ∧ ∀ k, okV k ty' x := by
     intro i hi
     have h1 := hel i hi
     rw [hc] at h1
     obtain ⟨y, hy⟩ : ∃ y, elems[i]? = some y := ⟨_, List.getElem?_eq_getElem (by omega)⟩
     rw [hy] at h1
     obtain ⟨ccs, h2, h3⟩ := Option.bind_eq_some_iff.1 h1
     obtain ⟨x, x1, x2, x3⟩ := ih e ty' e' ccs y.1 y.2 u2 h3
     exact ⟨x, ccs, y.1, h2, by simp [hy], x1, x2, x3⟩
    obtain ⟨xs, hxl, hxs⟩ := choose_list len each
    cases hx
    refine ⟨xs, ⟨some a, cap, by rw [hxl], by omega, (fun h => by cases h), fun i x hi => ?_⟩, fun k => ?_, fun k x hx => ?_⟩
    ·obtain ⟨ccs, d', q1, q2, q3, _⟩ := hxs i x hi
     obtain ⟨_, r1, r2⟩ := World.cells?_some q1
     have hb : a.block < w.heap.size := by
      have := r2 0 hpos
      obtain ⟨u, hu⟩ : ∃ u, ccs[0]? = some u := ⟨_, List.getElem?_eq_getElem (by omega)⟩
      rw [hu] at this
      have := World.block_lt_of_cell? w _ this
      rwa [addr_add_block, addr_add_block] at this
     refine ⟨a, ccs, rfl, hb, q3, fun j u hu => ?_⟩
     have hj : j < N.sz ty' := by
      have := (List.getElem?_eq_some_iff.1 hu).1
      omega
     rw [← addr_add_add, r2 j hj, hu]
    ·have := sumL_le (f := meas k ty') xs (elems.map (·.1)) (by simp [hxl, hlen]) (fun i x d hi hd => by
      obtain ⟨ccs, d', _, q2, _, q4, _⟩ := hxs i x hi
      rw [q2] at hd
      cases hd
      exact q4 k)
     show sumL (meas k ty') xs + 1 ≤ _
     simp only [bulk]
     omega
    ·obtain ⟨i, hi⟩ := List.mem_iff_getElem?.1 hx
     obtain ⟨ccs, d', _, _, _, _, q5⟩ := hxs i x hi
     exact q5 k
  | nm n =>
   obtain ⟨fs, u1, u2, _, _, zc, u5, _⟩ := F.nm t n e hτ
   obtain ⟨xs, m, hm, hx, hl, hxl, hf⟩ : ∃ (xs : List (DataW H × List MemPlace)) (n : Nat), fuel + 1 = n + 1 ∧ (d, ps) = (DataW.agg (xs.map (·.1)), xs.flatMap (·.2)) ∧ cs.length = P.cellsOf t ∧ xs.length = fs.size ∧
     ∀ (i : Nat) (f : Field), fs[i]? = some f → DataW.trod enc P w 0 sp held n f.type ((cs.drop f.offset).take (P.cellsOf f.type)) = xs[i]? := by
    rcases u1 with ⟨_, u1⟩ | ⟨len, el, ie, _, u1, ui, rfl⟩
    ·exact DataW.trod_struct u1 h
    ·obtain ⟨xs, m, hm, hx, hl, hxl, hf⟩ := DataW.trod_array u1 h
     refine ⟨xs, m, hm, hx, hl, by simp [virt, hxl], fun i f hif => ?_⟩
     obtain ⟨hlt, rfl⟩ := Array.getElem?_eq_some_iff.1 hif
     simp only [virt, List.getElem_toArray, List.getElem_map, List.getElem_range', Nat.zero_add, Nat.one_mul]
     have hcel : P.cellsOf el = ie.size := by simp [Program.cellsOf, ui]
     rw [hcel]
     rw [hcel] at hf
     exact hf i (by simpa [virt] using hlt)
   cases hm
   cases hx
   have hcl := cellsOf_eq F hτ
   have fields : ∀ (tys : List Ty) (off : Nat) (fl : List Field) (ys : List (DataW H × List MemPlace)), FieldsFit N τ tys off fl → ys.length = fl.length →
     (∀ (i : Nat) f, fl[i]? = some f → DataW.trod enc P w 0 sp held fuel f.type ((cs.drop f.offset).take (P.cellsOf f.type)) = ys[i]?) →
     ∃ y : HL N.ρ tys, RepL w (fun b => b < w.heap.size) (RepN w fun b => b < w.heap.size) tys y ((cs.drop off).take (szL N.size tys)) ∧ (∀ k, measL (measK N k) tys y ≤ bulkAll (ys.map (·.1))) ∧ ∀ k, okL (okK N k) tys y := by
    intro tys
    induction tys with
    | nil =>
     intro off fl ys hfit hyl hy
     exact ⟨(), by simp [szL, RepL], fun _ => Nat.zero_le _, fun _ => trivial⟩
    | cons ty tys ihf =>
     intro off fl ys hfit hyl hy
     match fl, ys, hfit, hyl with
     | f :: fl, y :: ys, hfit, hyl =>
      obtain ⟨f1, ⟨e1, f2⟩, _, _, f5⟩ := hfit
      have h0 := hy 0 f rfl
      rw [cellsOf_eq F f2, f1] at h0
      obtain ⟨x, x1, x2, x3⟩ := ih f.type ty e1 _ y.1 y.2 f2 h0
      obtain ⟨z, z1, z2, z3⟩ := ihf (off + N.sz ty) fl ys f5 (by simpa using hyl) (fun i f hf => by simpa using hy (i + 1) f (by simpa using hf))
      refine ⟨(x, z), ⟨_, _, ?_, x1, z1⟩, fun k => ?_, fun k => ⟨x3 k, z3 k⟩⟩
      ·rw [szL_cons, ← List.drop_drop, List.take_add]
      ·have a1 := x2 k
       have a2 := z2 k
       simp only [meas] at a1
       simp only [measL, List.map_cons, bulkAll]
       omega
   obtain ⟨y, y1, y2, y3⟩ := fields (N.body n) 0 fs.toList xs u2 (by simpa using hxl) (fun i f hf' => hf i f (by simpa using hf'))
   have hcs : (cs.drop 0).take (szL N.size (N.body n)) = cs := by
    rw [List.drop_zero, List.take_of_length_le]
    rw [hl, hcl]
    exact Nat.le_of_eq (N.size_eq n)
   rw [hcs] at y1
   refine ⟨N.re n y, RepN_close (by rw [N.un_re]; exact y1), fun k => ?_, fun k => ?_⟩
   ·cases k with
    | zero => exact bulk_pos _
    | succ k =>
     have := y2 k
     show measL (measK N k) (N.body n) (N.un n (N.re n y)) + 1 ≤ _
     rw [N.un_re]
     simp only [bulk]
     omega
   ·cases k with
    | zero => trivial
    | succ k =>
     show okL (okK N k) (N.body n) (N.un n (N.re n y))
     rw [N.un_re]
     exact y3 k
/-! The arguments of a law. -/
open Go.ChangeShapes Go.WideShapes Go.ChangeAt Go.RowKit
def measI (k : Nat) : (ps : List PK) → HIn N.ρ ps → Nat
 | [], _ => 0
 | .v t :: ps, x => meas k t x.1 + measI k ps x.2
 | .io _ _ :: ps, x => measI k ps x.2
 | .bw _ :: ps, x => measI k ps x.2
 | .bc _ :: ps, x => measI k ps x.2
 | .fv _ :: ps, x => measI k ps x.2
 | .fb _ :: ps, x => measI k ps x.2
 | .ag _ _ :: ps, x => measI k ps x.2
 | .go _ _ :: ps, x => measI k ps x.2
 | .fn _ _ :: ps, x => measI k ps x.2
 | .rp _ :: ps, x => measI k ps x.2
def okI (k : Nat) : (ps : List PK) → HIn N.ρ ps → Prop
 | [], _ => True
 | .v t :: ps, x => okV k t x.1 ∧ okI k ps x.2
 | .io _ _ :: ps, x => okI k ps x.2
 | .bw _ :: ps, x => okI k ps x.2
 | .bc _ :: ps, x => okI k ps x.2
 | .fv _ :: ps, x => okI k ps x.2
 | .fb _ :: ps, x => okI k ps x.2
 | .ag _ _ :: ps, x => okI k ps x.2
 | .go _ _ :: ps, x => okI k ps x.2
 | .fn _ _ :: ps, x => okI k ps x.2
 | .rp _ :: ps, x => okI k ps x.2
def lawPs (P : Program) (τ : TypeId → Option TI) : List TypeId → List PK → Bool
 | [], [] => true
 | t :: ts, .v ty :: ps => (match τ t with | some ti => decide (ti.ty = ty) | none => false) && (match ty with | .opq => false | _ => true) && P.readableRec t && decide (t < P.types.size) && lawPs P τ ts ps
 | _, _ => false
theorem asV_wide (F : Fits P N τ) {t e : TypeId} {ty : Ty} (hτ : τ t = some ⟨ty, e⟩) (hno : ty ≠ .opq) {r : Reach} {b0 : Nat} {v : Value} (hv : Value.okWide P w r b0 t v) : AsV ty v v.cells.toList := by
 cases ty with
 | int k => obtain ⟨n, rfl⟩ := okWide_int (F.int t k e hτ).1 hv; rfl
 | bool => obtain ⟨b, rfl⟩ := okWide_bool (F.bool t e hτ).1 hv; rfl
 | str => obtain ⟨s, rfl⟩ := okWide_string (F.str t e hτ).1 hv; rfl
 | sl ty' => obtain ⟨a, len, cap, rfl⟩ := okWide_slice (F.sl t ty' e hτ).1 hv; rfl
 | nm n =>
  obtain ⟨fs, u1, _⟩ := F.nm t n e hτ
  rcases u1 with ⟨_, u1⟩ | ⟨len, el, ie, _, u1, _, _⟩
  ·obtain ⟨cs, rfl, _⟩ := okWide_struct u1 hv
   rfl
  ·simp only [Value.okWide, u1] at hv
   obtain ⟨cs, rfl, _⟩ := hv
   rfl
 | opq => exact absurd rfl hno
theorem trodAll_in (F : Fits P N τ) {b0 : Nat} {vs0 : List Value} : ∀ (ts : List TypeId) (ps : List PK) (vs : List Value) (ds : List (DataW H)) (p : List MemPlace), lawPs P τ ts ps = true → (∀ (j : Nat) t v, ts[j]? = some t → vs[j]? = some v → Value.okWide P w .any b0 t v) →
  DataW.TrodAll enc P w 0 (fun _ => true) true ts vs ds p → ∃ x : HIn N.ρ ps, InRel w (fun b => b < w.heap.size) vs0 ps x vs [] ∧ (∀ k, measI k ps x ≤ bulkAll ds) ∧ (∀ k, okI k ps x) ∧ ∀ y ∈ p, y.block < w.heap.size
 | [], [], vs, ds, p, hl, hv, hA => by
  obtain ⟨rfl, rfl, rfl⟩ := trodAll_nil hA
  exact ⟨(), ⟨rfl, rfl⟩, fun _ => Nat.le_refl _, fun _ => trivial, fun y hy => by cases hy⟩
 | [], _ :: _, vs, ds, p, hl, hv, hA => by cases hl
 | _ :: _, [], vs, ds, p, hl, hv, hA => by cases hl
 | _ :: _, .io _ _ :: _, vs, ds, p, hl, hv, hA => by cases hl
 | _ :: _, .bw _ :: _, vs, ds, p, hl, hv, hA => by cases hl
 | _ :: _, .bc _ :: _, vs, ds, p, hl, hv, hA => by cases hl
 | _ :: _, .fv _ :: _, vs, ds, p, hl, hv, hA => by cases hl
 | _ :: _, .fb _ :: _, vs, ds, p, hl, hv, hA => by cases hl
 | _ :: _, .ag _ _ :: _, vs, ds, p, hl, hv, hA => by cases hl
 | _ :: _, .go _ _ :: _, vs, ds, p, hl, hv, hA => by cases hl
 | _ :: _, .fn _ _ :: _, vs, ds, p, hl, hv, hA => by cases hl
 | _ :: _, .rp _ :: _, vs, ds, p, hl, hv, hA => by cases hl
 | t :: ts, .v ty :: ps, vs, ds, p, hl, hv, hA => by
  obtain ⟨v, vs', d, ds', p1, q, rfl, rfl, rfl, h0, r0⟩ := trodAll_cons hA
  simp only [lawPs, Bool.and_eq_true, decide_eq_true_eq] at hl
  obtain ⟨⟨⟨⟨h1, h2⟩, _⟩, _⟩, h5⟩ := hl
  split at h1
  ·rename_i ti hti
   have h1 : ti.ty = ty := by simpa using h1
   subst h1
   have hno : ti.ty ≠ .opq := fun e => by rw [e] at h2; cases h2
   obtain ⟨x, x1, x2, x3, x4⟩ := trodAll_in F ts ps vs' ds' q h5 (fun j t v ht hv' => hv (j + 1) t v (by simpa using ht) (by simpa using hv')) r0
   have hlt : ∀ y ∈ p1, y.block < w.heap.size := by obtain ⟨m, hm⟩ := h0; exact DataW.trod_lt m _ _ _ hm
   obtain ⟨m, hm⟩ := h0
   obtain ⟨y, y1, y2, y3⟩ := rep_of_trod F m t ti.ty ti.el _ d p1 (by rw [hti]) hm
   refine ⟨(y, x), ⟨v, vs', [], [], rfl, rfl, ⟨⟨_, y1, asV_wide F (e := ti.el) (by rw [hti]) hno (hv 0 t v rfl rfl)⟩, rfl⟩, x1⟩, fun k => ?_, fun k => ⟨y3 k, x3 k⟩, fun z hz => ?_⟩
   ·have a1 := y2 k
    have a2 := x2 k
    simp only [measI, bulkAll]
    omega
   ·rcases List.mem_append.1 hz with hz | hz
    ·exact hlt z hz
    ·exact x4 z hz
  ·cases h1
theorem trodAll_back (hl : laidOutB P = true) {W' : World} (hb : Below w.heap.size w W') : ∀ (ts : List TypeId) (ps : List PK) (vs : List Value) (ds : List (DataW H)) (p : List MemPlace), lawPs P τ ts ps = true → (∀ y ∈ p, y.block < w.heap.size) →
  DataW.TrodAll enc P w 0 (fun _ => true) true ts vs ds p → DataW.TrodAll enc P W' 0 (fun b => decide (b < w.heap.size)) true ts vs ds p
 | [], [], vs, ds, p, h, hlt, hA => by
  obtain ⟨rfl, rfl, rfl⟩ := trodAll_nil hA
  exact trodAll_mk0
 | [], _ :: _, vs, ds, p, h, hlt, hA => by cases h
 | _ :: _, [], vs, ds, p, h, hlt, hA => by cases h
 | _ :: _, .io _ _ :: _, vs, ds, p, h, hlt, hA => by cases h
 | _ :: _, .bw _ :: _, vs, ds, p, h, hlt, hA => by cases h
 | _ :: _, .bc _ :: _, vs, ds, p, h, hlt, hA => by cases h
 | _ :: _, .fv _ :: _, vs, ds, p, h, hlt, hA => by cases h
 | _ :: _, .fb _ :: _, vs, ds, p, h, hlt, hA => by cases h
 | _ :: _, .ag _ _ :: _, vs, ds, p, h, hlt, hA => by cases h
 | _ :: _, .go _ _ :: _, vs, ds, p, h, hlt, hA => by cases h
 | _ :: _, .fn _ _ :: _, vs, ds, p, h, hlt, hA => by cases h
 | _ :: _, .rp _ :: _, vs, ds, p, h, hlt, hA => by cases h
 | t :: ts, .v ty :: ps, vs, ds, p, h, hlt, hA => by
  obtain ⟨v, vs', d, ds', p1, q, rfl, rfl, rfl, h0, r0⟩ := trodAll_cons hA
  simp only [lawPs, Bool.and_eq_true, decide_eq_true_eq] at h
  obtain ⟨⟨⟨⟨_, _⟩, h3⟩, h4⟩, h5⟩ := h
  exact trodAll_cons_mk (Below.trod hl h3 h4 h0 hb (fun y hy => hlt y (List.mem_append.2 (.inl hy)))) (trodAll_back hl hb ts ps vs' ds' q h5 (fun y hy => hlt y (List.mem_append.2 (.inr hy))) r0)
theorem inRel_len {ok : Nat → Prop} {vs0 : List Value} : ∀ (ps : List PK) (x : HIn N.ρ ps) (vs : List Value) (bl : List Nat), InRel w ok vs0 ps x vs bl → vs.length = ps.length
 | [], _, vs, bl, h => by rw [h.1]; rfl
 | p :: ps, x, vs, bl, ⟨v, rest, b1, b2, e, _, _, h⟩ => by rw [e, List.length_cons, inRel_len ps x.2 rest b2 h]; rfl
theorem arr_get {α : Type} (a : Array α) (j : Nat) (t : α) (h : a.toList[j]? = some t) : a[j]? = some t := by
 rw [← Array.getElem?_toList]
 exact h
theorem law_run (F : Fits P N τ) (hlaid : laidOutB P = true) {f : FuncId} {ts : List TypeId} {ps : List PK} {Fn : Eng.Fn N} {kf : Nat}
  (G : Good P f (Fn.spec ps [.v .bool] kf)) (hps : lawPs P τ ts ps = true) {B : Nat} (hlaw : ∀ x : HIn N.ρ ps, (∀ k, measI k ps x ≤ B) → (∀ k, okI k ps x) → ∃ o, Fn.run ps [.v .bool] kf x = some ((true, ()), o))
  {b0 : Nat} {args : Array Value} {ds : List (DataW H)} {p : List MemPlace} (hv : ∀ (j : Nat) t v, ts[j]? = some t → args[j]? = some v → Value.okWide P w .any b0 t v)
  (hA : DataW.TrodAll enc P w 0 (fun _ => true) true ts args.toList ds p) (hB : bulkAll ds ≤ B) (hgh : Fn.X.gh = 0 := by rfl) :
  Calls P f args w fun e W' => e = .returned (.bool true) ∧ Below w.heap.size w W' ∧ DataW.TrodAll enc P W' 0 (fun b => decide (b < w.heap.size)) true ts args.toList ds p := by
 obtain ⟨x, x1, x2, x3, x4⟩ := trodAll_in (vs0 := args.toList) F ts ps args.toList ds p hps (fun j t v ht hv' => hv j t v ht (by simpa using hv')) hA
 obtain ⟨o, hx⟩ := hlaw x (fun k => Nat.le_trans (x2 k) hB) x3
 have := G.calls w (fun b => b < w.heap.size) x args.toList [] ((true, ()), o) (fun _ h => h) x1 List.nodup_nil (fun g hg => by cases hg) hx
 rw [show (Fn.spec ps [RK.v .bool] kf).ps.length - (Fn.spec ps [RK.v .bool] kf).gh = args.toList.length from by rw [show (Fn.spec ps [RK.v .bool] kf).gh = 0 from hgh, inRel_len ps x _ _ x1]; rfl, List.take_length, Array.toArray_toList] at this
 refine this.mono ?_
 rintro e W' ⟨us, bl', rl, rfl, hC⟩
 have hb : Below w.heap.size w W' := ⟨hC.kept.os, hC.kept.tape, hC.kept.output, hC.kept.size, fun k hk => hC.kept.block k hk (fun h => by cases h)⟩
 refine ⟨?_, hb, trodAll_back hlaid hb ts ps _ ds p hps x4 hA⟩
 have hr := hC.res
 obtain ⟨v, rest, b1, b2, rfl, rfl, ⟨⟨cs, k1, k2⟩, rfl⟩, ⟨rfl, rfl⟩⟩ := hr
 have k1 : cs = [.bool true] := k1
 have k2 : cs = [v] := k2
 rw [k1] at k2
 cases k2
 rfl
end Go.Eng

set_option linter.unusedVariables false
set_option linter.unusedSimpArgs false
namespace Go.Eng
theorem wrap64_id {z : Int} (h1 : -9223372036854775808 ≤ z) (h2 : z < 9223372036854775808) : IntKind.i64.wrap z = z := by
 simp only [IntKind.wrap]
 first
  | omega
  | (simp [IntKind.bits, IntKind.signed]; omega)
  | (rw [Int.bmod_eq_of_le] <;> omega)
end Go.Eng

set_option linter.unusedVariables false
set_option linter.unusedSimpArgs false
namespace Go.Eng
variable {N : Names} {P : Program}
def cmpS (a b : List Int) : Int := bif strLt a b then -1 else bif strLt b a then 1 else 0
theorem cmpS_cons (x y : Int) (a b : List Int) : cmpS (x :: a) (y :: b) = if x < y then -1 else if y < x then 1 else cmpS a b := by
 unfold cmpS
 simp only [strLt]
 by_cases h1 : x < y
 ·simp [h1]
 ·by_cases h2 : y < x
  ·simp [h1, h2, show ¬ x = y by omega]
  ·have : x = y := by omega
   subst this
   simp
theorem cmpBytes : ∀ l m : List UInt8, Lib.compareBytes l m = cmpS (l.map fun b => (b.toNat : Int)) (m.map fun b => (b.toNat : Int))
 | [], [] => rfl
 | [], _ :: _ => rfl
 | _ :: _, [] => rfl
 | a :: l, b :: m => by
  rw [Lib.compareBytes, List.map_cons, List.map_cons, cmpS_cons, cmpBytes l m]
  have e1 : (a < b) ↔ ((a.toNat : Int) < (b.toNat : Int)) := by rw [UInt8.lt_iff_toNat_lt]; omega
  have e2 : (b < a) ↔ ((b.toNat : Int) < (a.toNat : Int)) := by rw [UInt8.lt_iff_toNat_lt]; omega
  by_cases h1 : a < b
  ·rw [if_pos h1, if_pos (e1.1 h1)]
  ·rw [if_neg h1, if_neg (fun h => h1 (e1.2 h))]
   by_cases h2 : b < a
   ·rw [if_pos h2, if_pos (e2.1 h2)]
   ·rw [if_neg h2, if_neg (fun h => h2 (e2.2 h))]
theorem good_cmp {id : FuncId} {fn : Func} {c : Code} (hf : P.funcs[id]? = some fn) (hb : fn.body = some c) (hn : (fn.name == "runtime.NumGoroutine") = false)
  (hcalls : ∀ (a b : ByteArray) (w : World), Calls P id #[.string a, .string b] w fun e w' => e = .returned (.int .i64 (Lib.compareBytes a.data.toList b.data.toList)) ∧ w' = w) :
  Good P id (specOf (N := N) [.v .str, .v .str] [.v (.int .i64)] 0 fun x => some ((cmpS x.1 x.2.1, ()), ())) where
 enter w args := callFunc_enter hf hb hn w args
 calls w ok x vs bl r hok hin hbl hblk hr := by
  obtain ⟨v1, rest, b1, b2, rfl, rfl, ⟨⟨cs1, h1, k1⟩, rfl⟩, v2, rest2, b3, b4, rfl, rfl, ⟨⟨cs2, h2, k2⟩, rfl⟩, rfl, rfl⟩ := hin
  obtain ⟨s1, e1, f1⟩ := h1
  obtain ⟨s2, e2, f2⟩ := h2
  have k1' : cs1 = [v1] := k1
  have k2' : cs2 = [v2] := k2
  rw [e1] at k1'
  rw [e2] at k2'
  have g1 : v1 = .string s1 := (List.cons.inj k1').1.symm
  have g2 : v2 = .string s2 := (List.cons.inj k2').1.symm
  have hr' : some ((cmpS x.1 x.2.1, ()), ()) = some r := hr
  cases hr'
  subst g1 g2
  refine (hcalls s1 s2 w).mono ?_
  rintro e w' ⟨rfl, rfl⟩
  refine ⟨[.int .i64 (cmpS x.1 x.2.1)], [], [], ?_, ⟨⟨rfl, rfl, rfl, Nat.le_refl _, fun _ _ _ => rfl⟩, rfl, ⟨_, [], [], [], rfl, rfl, ⟨⟨_, rfl, rfl⟩, rfl⟩, rfl, rfl⟩, List.nodup_nil, fun g hg => by cases hg⟩⟩
  rw [cmpBytes, ← f1, ← f2]
  rfl
end Go.Eng

set_option linter.unusedVariables false
set_option linter.unusedSimpArgs false
namespace Go.Eng
theorem u64_wrap (n : Nat) : IntKind.u64.wrap (n : Int) = ((n % 18446744073709551616 : Nat) : Int) := by
 simp [IntKind.wrap, IntKind.bits, IntKind.signed]
theorem u64_wrap_id {z : Int} (h1 : 0 ≤ z) (h2 : z < 18446744073709551616) : IntKind.u64.wrap z = z := by
 obtain ⟨n, rfl⟩ := Int.eq_ofNat_of_zero_le h1
 rw [u64_wrap, Nat.mod_eq_of_lt (by omega)]
theorem ofInt_nat (w n : Nat) : BitVec.ofInt w (n : Int) = BitVec.ofNat w n := BitVec.ofInt_natCast w n
theorem or_u64 {a b : Nat} (ha : a < 18446744073709551616) (hb : b < 18446744073709551616) : Go.bits .or .u64 (a : Int) (b : Int) = ((a ||| b : Nat) : Int) := by
 unfold Go.bits
 simp only [ofInt_nat, BitVec.toNat_or, BitVec.toNat_ofNat, show IntKind.u64.bits = 64 from rfl]
 rw [Nat.mod_eq_of_lt (show a < 2 ^ 64 from ha), Nat.mod_eq_of_lt (show b < 2 ^ 64 from hb), u64_wrap, Nat.mod_eq_of_lt]
 exact Nat.or_lt_two_pow (n := 64) ha hb
theorem or_add {a y r : Nat} (ha : a < 2 ^ r) : a ||| (y * 2 ^ r) = a + y * 2 ^ r := by
 rw [Nat.or_comm, Nat.mul_comm, ← Nat.two_pow_add_eq_or_of_lt ha, Nat.add_comm]
def dig (M len : Nat) : List Int := (List.range len).map fun p => ((M / 256 ^ p % 256 : Nat) : Int)
/-! The number of significant bits. -/
def bitlen : Nat → Nat
 | 0 => 0
 | n + 1 => bitlen ((n + 1) / 2) + 1
decreasing_by omega
/-! Numbers of seven bits a byte. -/
def vEnc (n : Nat) : List Int := if h : n < 128 then [(n : Int)] else ((128 + n % 128 : Nat) : Int) :: vEnc (n / 128)
termination_by n
decreasing_by omega
end Go.Eng
