/- The engine: a law's arguments, as they are read, are values; what they measure is at most the bulk of the reading.
Plain facts that the laws' own proofs use: wrapping, indices, counts.
The engine: the library's strings.Compare, as the kit's shelf has it.
The engine: the library's sort at integers, out of its contract.
The engine: library functions that take a row away and give it back shorter, or grown, out of their contracts. -/
import Derived.Test.YtenjolapmchcmaaGreatDoorEngine5
import Derived.WalkKit
import Derived.ProofKit
import Derived.OpenShut
import Derived.JoinedCond
import Derived.ChangeArms
import Derived.ChangeOld
import Derived.WideShapes
import Derived.Carry
import Derived.Lib.Bytealg
import Derived.Sort.OwnSorted
set_option linter.unusedVariables false
set_option linter.unusedSimpArgs false
namespace Go.Eng
variable {N : Names} {P : Program} {H : Type} {enc : TypeId × Value → H} {w : World} {τ : TypeId → Option TI}
/-! How great a value is; whether its numbers are of their kinds. -/
def sumL {α : Type} (f : α → Nat) : List α → Nat
 | [] => 0
 | x :: r => f x + sumL f r
def measT (g : (n : Nat) → N.ρ n → Nat) : (t : Ty) → t.den N.ρ → Nat
 | .int _, _ => 1
 | .bool, _ => 1
 | .str, l => l.length + 1
 | .sl e, xs => sumL (measT g e) xs + 1
 | .nm n, x => g n x
 | .opq, _ => 1
def measL (g : (n : Nat) → N.ρ n → Nat) : (ts : List Ty) → HL N.ρ ts → Nat
 | [], _ => 0
 | t :: ts, x => measT g t x.1 + measL g ts x.2
def measK (N : Names) : Nat → (n : Nat) → N.ρ n → Nat
 | 0, _, _ => 1
 | k + 1, n, x => measL (measK N k) (N.body n) (N.un n x) + 1
def meas (k : Nat) (t : Ty) (x : t.den N.ρ) : Nat := measT (measK N k) t x
def okT (g : (n : Nat) → N.ρ n → Prop) : (t : Ty) → t.den N.ρ → Prop
 | .int k, n => (Lit.int k n).wf = true
 | .bool, _ => True
 | .str, l => ∀ b ∈ l, 0 ≤ b ∧ b < 256
 | .sl e, xs => ∀ x ∈ xs, okT g e x
 | .nm n, x => g n x
 | .opq, _ => True
def okL (g : (n : Nat) → N.ρ n → Prop) : (ts : List Ty) → HL N.ρ ts → Prop
 | [], _ => True
 | t :: ts, x => okT g t x.1 ∧ okL g ts x.2
def okK (N : Names) : Nat → (n : Nat) → N.ρ n → Prop
 | 0, _, _ => True
 | k + 1, n, x => okL (okK N k) (N.body n) (N.un n x)
def okV (k : Nat) (t : Ty) (x : t.den N.ρ) : Prop := okT (okK N k) t x
mutual
def bulk {H : Type} : DataW H → Nat
 | .lit (.string bytes) => bytes.length + 1
 | .lit _ => 1
 | .nil => 1
 | .ptr d => bulk d + 1
 | .slice elems spare => bulkAll elems + bulkAll spare + 1
 | .agg parts => bulkAll parts + 1
 | .iface _ d => bulk d + 1
 | .map entries => bulkEntries entries + 1
 | .held _ => 1
def bulkAll {H : Type} : List (DataW H) → Nat
 | [] => 0
 | d :: r => bulk d + bulkAll r
def bulkEntries {H : Type} : List (Lit × DataW H) → Nat
 | [] => 0
 | x :: r => bulkEntry x + bulkEntries r
def bulkEntry {H : Type} : Lit × DataW H → Nat
 | (.string bytes, d) => bytes.length + bulk d + 1
 | (_, d) => bulk d + 1
end
theorem bulk_pos (d : DataW H) : 1 ≤ bulk d := by
 cases d with
 | lit l => cases l <;> simp [bulk]
 | _ => simp [bulk]
theorem sumL_le {α : Type} {f : α → Nat} : ∀ (xs : List α) (ds : List (DataW H)), xs.length = ds.length → (∀ (i : Nat) x d, xs[i]? = some x → ds[i]? = some d → f x ≤ bulk d) → sumL f xs ≤ bulkAll ds
 | [], _, _, _ => Nat.zero_le _
 | x :: xs, [], h, _ => by simp at h
 | x :: xs, d :: ds, h, hx => by
  have h1 := hx 0 x d rfl rfl
  have h2 := sumL_le (f := f) xs ds (by simpa using h) (fun i x d hi hd => hx (i + 1) x d (by simpa using hi) (by simpa using hd))
  simp only [sumL, bulkAll]
  omega
theorem choose_list {α : Type} {Q : Nat → α → Prop} : ∀ (n : Nat), (∀ i, i < n → ∃ x, Q i x) → ∃ xs : List α, xs.length = n ∧ ∀ (i : Nat) x, xs[i]? = some x → Q i x
 | 0, _ => ⟨[], rfl, fun i x h => by simp at h⟩
 | n + 1, h => by
  obtain ⟨xs, h1, h2⟩ := choose_list n (fun i hi => h i (by omega))
  obtain ⟨x, hx⟩ := h n (by omega)
  refine ⟨xs ++ [x], by simp [h1], fun i y hy => ?_⟩
  rcases Nat.lt_or_ge i n with hi | hi
  ·rw [List.getElem?_append_left (by omega)] at hy
   exact h2 i y hy
  ·rw [List.getElem?_append_right (by omega)] at hy
   rcases Nat.eq_or_lt_of_le (show 0 ≤ i - xs.length from Nat.zero_le _) with h0 | h0
   ·rw [← h0] at hy
    simp only [List.getElem?_cons_zero, Option.some.injEq] at hy
    subst hy
    rw [show i = n from by omega]
    exact hx
   ·obtain ⟨m, hm⟩ : ∃ m, i - xs.length = m + 1 := ⟨i - xs.length - 1, by omega⟩
    rw [hm] at hy
    simp at hy
theorem cellsOf_eq (F : Fits P N τ) {t e : TypeId} {ty : Ty} (h : τ t = some ⟨ty, e⟩) : P.cellsOf t = N.sz ty := by
 obtain ⟨i, z, zc, h1, h2, h3, _⟩ := F.info h
 simp [Program.cellsOf, h1, h3]
theorem bytesL_range (s : ByteArray) : ∀ b ∈ bytesL s, 0 ≤ b ∧ b < 256 := by
 intro b hb
 unfold bytesL at hb
 obtain ⟨u, _, rfl⟩ := List.mem_map.1 hb
 have := u.toNat_lt
 omega
theorem opq_one {sp : Nat → Bool} {held : Bool} {fuel : Nat} {t : TypeId} {d0 : TypeDesc} {cs : List Value} {x : DataW H × List MemPlace} (hn : (match d0 with | .struct _ | .array _ _ => true | _ => false) = false) (hu : P.underlying t = some d0)
  (h : DataW.trod enc P w 0 sp held fuel t cs = some x) : ∃ v, cs = [v] ∧ v.oneCell' = true := by
 cases fuel with
 | zero => simp [DataW.trod] at h
 | succ n =>
  unfold DataW.trod at h
  rw [hu] at h
  split at h <;> first | exact ⟨_, rfl, rfl⟩ | (simp_all; done) | (rename_i heq; cases heq; cases hn)
theorem rep_of_trod (F : Fits P N τ) {sp : Nat → Bool} {held : Bool} : ∀ (fuel : Nat) (t : TypeId) (ty : Ty) (e : TypeId) (cs : List Value) (d : DataW H) (ps : List MemPlace), τ t = some ⟨ty, e⟩ → DataW.trod enc P w 0 sp held fuel t cs = some (d, ps) →
  ∃ x : ty.den N.ρ, Rep w (fun b => b < w.heap.size) ty x cs ∧ (∀ k, meas k ty x ≤ bulk d) ∧ ∀ k, okV k ty x := by
 intro fuel
 induction fuel with
 | zero => intro t ty e cs d ps _ h; simp [DataW.trod] at h
 | succ fuel ih =>
  intro t ty e cs d ps hτ h
  cases ty with
  | int k =>
   obtain ⟨n, h1, h2, h3⟩ := DataW.trod_int (F.int t k e hτ).1 h
   cases h2
   exact ⟨n, h1, fun _ => Nat.le_refl _, fun _ => h3⟩
  | bool =>
   obtain ⟨b, h1, h2⟩ := DataW.trod_bool (F.bool t e hτ).1 h
   cases h2
   exact ⟨b, h1, fun _ => Nat.le_refl _, fun _ => trivial⟩
  | str =>
   obtain ⟨s, h1, h2, h3⟩ := DataW.trod_string (F.str t e hτ).1 h
   cases h2
   refine ⟨bytesL s, ⟨s, h1, rfl⟩, fun _ => ?_, fun _ => bytesL_range s⟩
   simp [meas, measT, bulk, bytesL]
  | opq =>
   obtain ⟨⟨d0, u1, u2⟩, _⟩ := F.opq t e hτ
   obtain ⟨v, hv, hv1⟩ := opq_one u2 u1 h
   exact ⟨(), ⟨v, hv, hv1⟩, fun _ => bulk_pos d, fun _ => trivial⟩
  | sl ty' =>
   obtain ⟨u1, ⟨e', u2⟩, _⟩ := F.sl t ty' e hτ
   rcases DataW.trod_slice u1 h with ⟨rfl, hx⟩ | ⟨a, len, cap, elems, rest, n, hn, rfl, hx, _, hlc, _, hlen, hel, _, _⟩
   ·cases hx
    exact ⟨[], ⟨none, 0, rfl, Nat.le_refl _, fun _ => rfl, fun i x hi => by simp at hi⟩, fun _ => Nat.le_refl _, fun _ x hx => by cases hx⟩
   ·cases hn
    have hc := cellsOf_eq F u2
    have hpos := F.pos u2
    have each : ∀ i, i < len → ∃ x : ty'.den N.ρ, ∃ ccs d', w.cells? 0 (a.add (i * N.sz ty')) (N.sz ty') = some ccs ∧ (elems.map (·.1))[i]? = some d' ∧ Rep w (fun b => b < w.heap.size) ty' x ccs ∧ (∀ k, meas k ty' x ≤ bulk d') ∧ ∀ k, okV k ty' x := by
     intro i hi
     have h1 := hel i hi
     rw [hc] at h1
     obtain ⟨y, hy⟩ : ∃ y, elems[i]? = some y := ⟨_, List.getElem?_eq_getElem (by omega)⟩
     rw [hy] at h1
     obtain ⟨ccs, h2, h3⟩ := Option.bind_eq_some_iff.1 h1
     obtain ⟨x, x1, x2, x3⟩ := ih e ty' e' ccs y.1 y.2 u2 h3
     exact ⟨x, ccs, y.1, h2, by simp [hy], x1, x2, x3⟩
    obtain ⟨xs, hxl, hxs⟩ := choose_list len each
    cases hx
    refine ⟨xs, ⟨some a, cap, by rw [hxl], by omega, (fun h => by cases h), fun i x hi => ?_⟩, fun k => ?_, fun k x hx => ?_⟩
    ·obtain ⟨ccs, d', q1, q2, q3, _⟩ := hxs i x hi
     obtain ⟨_, r1, r2⟩ := World.cells?_some q1
     have hb : a.block < w.heap.size := by
      have := r2 0 hpos
      obtain ⟨u, hu⟩ : ∃ u, ccs[0]? = some u := ⟨_, List.getElem?_eq_getElem (by omega)⟩
      rw [hu] at this
      have := World.block_lt_of_cell? w _ this
      rwa [addr_add_block, addr_add_block] at this
     refine ⟨a, ccs, rfl, hb, q3, fun j u hu => ?_⟩
     have hj : j < N.sz ty' := by
      have := (List.getElem?_eq_some_iff.1 hu).1
      omega
     rw [← addr_add_add, r2 j hj, hu]
    ·have := sumL_le (f := meas k ty') xs (elems.map (·.1)) (by simp [hxl, hlen]) (fun i x d hi hd => by
      obtain ⟨ccs, d', _, q2, _, q4, _⟩ := hxs i x hi
      rw [q2] at hd
      cases hd
      exact q4 k)
     show sumL (meas k ty') xs + 1 ≤ _
     simp only [bulk]
     omega
    ·obtain ⟨i, hi⟩ := List.mem_iff_getElem?.1 hx
     obtain ⟨ccs, d', _, _, _, _, q5⟩ := hxs i x hi
     exact q5 k
  | nm n =>
   obtain ⟨fs, u1, u2, _, _, zc, u5, _⟩ := F.nm t n e hτ
   obtain ⟨xs, m, hm, hx, hl, hxl, hf⟩ : ∃ (xs : List (DataW H × List MemPlace)) (n : Nat), fuel + 1 = n + 1 ∧ (d, ps) = (DataW.agg (xs.map (·.1)), xs.flatMap (·.2)) ∧ cs.length = P.cellsOf t ∧ xs.length = fs.size ∧
     ∀ (i : Nat) (f : Field), fs[i]? = some f → DataW.trod enc P w 0 sp held n f.type ((cs.drop f.offset).take (P.cellsOf f.type)) = xs[i]? := by
    rcases u1 with ⟨_, u1⟩ | ⟨len, el, ie, _, u1, ui, rfl⟩
    ·exact DataW.trod_struct u1 h
    ·obtain ⟨xs, m, hm, hx, hl, hxl, hf⟩ := DataW.trod_array u1 h
     refine ⟨xs, m, hm, hx, hl, by simp [virt, hxl], fun i f hif => ?_⟩
     obtain ⟨hlt, rfl⟩ := Array.getElem?_eq_some_iff.1 hif
     simp only [virt, List.getElem_toArray, List.getElem_map, List.getElem_range', Nat.zero_add, Nat.one_mul]
     have hcel : P.cellsOf el = ie.size := by simp [Program.cellsOf, ui]
     rw [hcel]
     rw [hcel] at hf
     exact hf i (by simpa [virt] using hlt)
   cases hm
   cases hx
   have hcl := cellsOf_eq F hτ
   have fields : ∀ (tys : List Ty) (off : Nat) (fl : List Field) (ys : List (DataW H × List MemPlace)), FieldsFit N τ tys off fl → ys.length = fl.length →
     (∀ (i : Nat) f, fl[i]? = some f → DataW.trod enc P w 0 sp held fuel f.type ((cs.drop f.offset).take (P.cellsOf f.type)) = ys[i]?) →
     ∃ y : HL N.ρ tys, RepL w (fun b => b < w.heap.size) (RepN w fun b => b < w.heap.size) tys y ((cs.drop off).take (szL N.size tys)) ∧ (∀ k, measL (measK N k) tys y ≤ bulkAll (ys.map (·.1))) ∧ ∀ k, okL (okK N k) tys y := by
    intro tys
    induction tys with
    | nil =>
     intro off fl ys hfit hyl hy
     exact ⟨(), by simp [szL, RepL], fun _ => Nat.zero_le _, fun _ => trivial⟩
    | cons ty tys ihf =>
     intro off fl ys hfit hyl hy
     match fl, ys, hfit, hyl with
     | f :: fl, y :: ys, hfit, hyl =>
      obtain ⟨f1, ⟨e1, f2⟩, _, _, f5⟩ := hfit
      have h0 := hy 0 f rfl
      rw [cellsOf_eq F f2, f1] at h0
      obtain ⟨x, x1, x2, x3⟩ := ih f.type ty e1 _ y.1 y.2 f2 h0
      obtain ⟨z, z1, z2, z3⟩ := ihf (off + N.sz ty) fl ys f5 (by simpa using hyl) (fun i f hf => by simpa using hy (i + 1) f (by simpa using hf))
      refine ⟨(x, z), ⟨_, _, ?_, x1, z1⟩, fun k => ?_, fun k => ⟨x3 k, z3 k⟩⟩
      ·rw [szL_cons, ← List.drop_drop, List.take_add]
      ·have a1 := x2 k
       have a2 := z2 k
       simp only [meas] at a1
       simp only [measL, List.map_cons, bulkAll]
       omega
   obtain ⟨y, y1, y2, y3⟩ := fields (N.body n) 0 fs.toList xs u2 (by simpa using hxl) (fun i f hf' => hf i f (by simpa using hf'))
   have hcs : (cs.drop 0).take (szL N.size (N.body n)) = cs := by
    rw [List.drop_zero, List.take_of_length_le]
    rw [hl, hcl]
    exact Nat.le_of_eq (N.size_eq n)
   rw [hcs] at y1
   refine ⟨N.re n y, RepN_close (by rw [N.un_re]; exact y1), fun k => ?_, fun k => ?_⟩
   ·cases k with
    | zero => exact bulk_pos _
    | succ k =>
     have := y2 k
     show measL (measK N k) (N.body n) (N.un n (N.re n y)) + 1 ≤ _
     rw [N.un_re]
     simp only [bulk]
     omega
   ·cases k with
    | zero => trivial
    | succ k =>
     show okL (okK N k) (N.body n) (N.un n (N.re n y))
     rw [N.un_re]
     exact y3 k
/-! The arguments of a law. -/
open Go.ChangeShapes Go.WideShapes Go.ChangeAt Go.RowKit
def measI (k : Nat) : (ps : List PK) → HIn N.ρ ps → Nat
 | [], _ => 0
 | .v t :: ps, x => meas k t x.1 + measI k ps x.2
 | .io _ _ :: ps, x => measI k ps x.2
 | .bw _ :: ps, x => measI k ps x.2
 | .bc _ :: ps, x => measI k ps x.2
 | .fv _ :: ps, x => measI k ps x.2
 | .fb _ :: ps, x => measI k ps x.2
 | .ag _ _ :: ps, x => measI k ps x.2
 | .go _ _ :: ps, x => measI k ps x.2
 | .fn _ _ :: ps, x => measI k ps x.2
 | .rp _ :: ps, x => measI k ps x.2
def okI (k : Nat) : (ps : List PK) → HIn N.ρ ps → Prop
 | [], _ => True
 | .v t :: ps, x => okV k t x.1 ∧ okI k ps x.2
 | .io _ _ :: ps, x => okI k ps x.2
 | .bw _ :: ps, x => okI k ps x.2
 | .bc _ :: ps, x => okI k ps x.2
 | .fv _ :: ps, x => okI k ps x.2
 | .fb _ :: ps, x => okI k ps x.2
 | .ag _ _ :: ps, x => okI k ps x.2
 | .go _ _ :: ps, x => okI k ps x.2
 | .fn _ _ :: ps, x => okI k ps x.2
 | .rp _ :: ps, x => okI k ps x.2
def lawPs (P : Program) (τ : TypeId → Option TI) : List TypeId → List PK → Bool
 | [], [] => true
 | t :: ts, .v ty :: ps => (match τ t with | some ti => decide (ti.ty = ty) | none => false) && (match ty with | .opq => false | _ => true) && P.readableRec t && decide (t < P.types.size) && lawPs P τ ts ps
 | _, _ => false
theorem asV_wide (F : Fits P N τ) {t e : TypeId} {ty : Ty} (hτ : τ t = some ⟨ty, e⟩) (hno : ty ≠ .opq) {r : Reach} {b0 : Nat} {v : Value} (hv : Value.okWide P w r b0 t v) : AsV ty v v.cells.toList := by
 cases ty with
 | int k => obtain ⟨n, rfl⟩ := okWide_int (F.int t k e hτ).1 hv; rfl
 | bool => obtain ⟨b, rfl⟩ := okWide_bool (F.bool t e hτ).1 hv; rfl
 | str => obtain ⟨s, rfl⟩ := okWide_string (F.str t e hτ).1 hv; rfl
 | sl ty' => obtain ⟨a, len, cap, rfl⟩ := okWide_slice (F.sl t ty' e hτ).1 hv; rfl
 | nm n =>
  obtain ⟨fs, u1, _⟩ := F.nm t n e hτ
  rcases u1 with ⟨_, u1⟩ | ⟨len, el, ie, _, u1, _, _⟩
  ·obtain ⟨cs, rfl, _⟩ := okWide_struct u1 hv
   rfl
  ·simp only [Value.okWide, u1] at hv
   obtain ⟨cs, rfl, _⟩ := hv
   rfl
 | opq => exact absurd rfl hno
theorem trodAll_in (F : Fits P N τ) {b0 : Nat} {vs0 : List Value} : ∀ (ts : List TypeId) (ps : List PK) (vs : List Value) (ds : List (DataW H)) (p : List MemPlace), lawPs P τ ts ps = true → (∀ (j : Nat) t v, ts[j]? = some t → vs[j]? = some v → Value.okWide P w .any b0 t v) →
  DataW.TrodAll enc P w 0 (fun _ => true) true ts vs ds p → ∃ x : HIn N.ρ ps, InRel w (fun b => b < w.heap.size) vs0 ps x vs [] ∧ (∀ k, measI k ps x ≤ bulkAll ds) ∧ (∀ k, okI k ps x) ∧ ∀ y ∈ p, y.block < w.heap.size
 | [], [], vs, ds, p, hl, hv, hA => by
  obtain ⟨rfl, rfl, rfl⟩ := trodAll_nil hA
  exact ⟨(), ⟨rfl, rfl⟩, fun _ => Nat.le_refl _, fun _ => trivial, fun y hy => by cases hy⟩
 | [], _ :: _, vs, ds, p, hl, hv, hA => by cases hl
 | _ :: _, [], vs, ds, p, hl, hv, hA => by cases hl
 | _ :: _, .io _ _ :: _, vs, ds, p, hl, hv, hA => by cases hl
 | _ :: _, .bw _ :: _, vs, ds, p, hl, hv, hA => by cases hl
 | _ :: _, .bc _ :: _, vs, ds, p, hl, hv, hA => by cases hl
 | _ :: _, .fv _ :: _, vs, ds, p, hl, hv, hA => by cases hl
 | _ :: _, .fb _ :: _, vs, ds, p, hl, hv, hA => by cases hl
 | _ :: _, .ag _ _ :: _, vs, ds, p, hl, hv, hA => by cases hl
 | _ :: _, .go _ _ :: _, vs, ds, p, hl, hv, hA => by cases hl
 | _ :: _, .fn _ _ :: _, vs, ds, p, hl, hv, hA => by cases hl
 | _ :: _, .rp _ :: _, vs, ds, p, hl, hv, hA => by cases hl
 | t :: ts, .v ty :: ps, vs, ds, p, hl, hv, hA => by
  obtain ⟨v, vs', d, ds', p1, q, rfl, rfl, rfl, h0, r0⟩ := trodAll_cons hA
  simp only [lawPs, Bool.and_eq_true, decide_eq_true_eq] at hl
  obtain ⟨⟨⟨⟨h1, h2⟩, _⟩, _⟩, h5⟩ := hl
  split at h1
  ·rename_i ti hti
   have h1 : ti.ty = ty := by simpa using h1
   subst h1
   have hno : ti.ty ≠ .opq := fun e => by rw [e] at h2; cases h2
   obtain ⟨x, x1, x2, x3, x4⟩ := trodAll_in F ts ps vs' ds' q h5 (fun j t v ht hv' => hv (j + 1) t v (by simpa using ht) (by simpa using hv')) r0
   have hlt : ∀ y ∈ p1, y.block < w.heap.size := by obtain ⟨m, hm⟩ := h0; exact DataW.trod_lt m _ _ _ hm
   obtain ⟨m, hm⟩ := h0
   obtain ⟨y, y1, y2, y3⟩ := rep_of_trod F m t ti.ty ti.el _ d p1 (by rw [hti]) hm
   refine ⟨(y, x), ⟨v, vs', [], [], rfl, rfl, ⟨⟨_, y1, asV_wide F (e := ti.el) (by rw [hti]) hno (hv 0 t v rfl rfl)⟩, rfl⟩, x1⟩, fun k => ?_, fun k => ⟨y3 k, x3 k⟩, fun z hz => ?_⟩
   ·have a1 := y2 k
    have a2 := x2 k
    simp only [measI, bulkAll]
    omega
   ·rcases List.mem_append.1 hz with hz | hz
    ·exact hlt z hz
    ·exact x4 z hz
  ·cases h1
theorem trodAll_back (hl : laidOutB P = true) {W' : World} (hb : Below w.heap.size w W') : ∀ (ts : List TypeId) (ps : List PK) (vs : List Value) (ds : List (DataW H)) (p : List MemPlace), lawPs P τ ts ps = true → (∀ y ∈ p, y.block < w.heap.size) →
  DataW.TrodAll enc P w 0 (fun _ => true) true ts vs ds p → DataW.TrodAll enc P W' 0 (fun b => decide (b < w.heap.size)) true ts vs ds p
 | [], [], vs, ds, p, h, hlt, hA => by
  obtain ⟨rfl, rfl, rfl⟩ := trodAll_nil hA
  exact trodAll_mk0
 | [], _ :: _, vs, ds, p, h, hlt, hA => by cases h
 | _ :: _, [], vs, ds, p, h, hlt, hA => by cases h
 | _ :: _, .io _ _ :: _, vs, ds, p, h, hlt, hA => by cases h
 | _ :: _, .bw _ :: _, vs, ds, p, h, hlt, hA => by cases h
 | _ :: _, .bc _ :: _, vs, ds, p, h, hlt, hA => by cases h
 | _ :: _, .fv _ :: _, vs, ds, p, h, hlt, hA => by cases h
 | _ :: _, .fb _ :: _, vs, ds, p, h, hlt, hA => by cases h
 | _ :: _, .ag _ _ :: _, vs, ds, p, h, hlt, hA => by cases h
 | _ :: _, .go _ _ :: _, vs, ds, p, h, hlt, hA => by cases h
 | _ :: _, .fn _ _ :: _, vs, ds, p, h, hlt, hA => by cases h
 | _ :: _, .rp _ :: _, vs, ds, p, h, hlt, hA => by cases h
 | t :: ts, .v ty :: ps, vs, ds, p, h, hlt, hA => by
  obtain ⟨v, vs', d, ds', p1, q, rfl, rfl, rfl, h0, r0⟩ := trodAll_cons hA
  simp only [lawPs, Bool.and_eq_true, decide_eq_true_eq] at h
  obtain ⟨⟨⟨⟨_, _⟩, h3⟩, h4⟩, h5⟩ := h
  exact trodAll_cons_mk (Below.trod hl h3 h4 h0 hb (fun y hy => hlt y (List.mem_append.2 (.inl hy)))) (trodAll_back hl hb ts ps vs' ds' q h5 (fun y hy => hlt y (List.mem_append.2 (.inr hy))) r0)
theorem inRel_len {ok : Nat → Prop} {vs0 : List Value} : ∀ (ps : List PK) (x : HIn N.ρ ps) (vs : List Value) (bl : List Nat), InRel w ok vs0 ps x vs bl → vs.length = ps.length
 | [], _, vs, bl, h => by rw [h.1]; rfl
 | p :: ps, x, vs, bl, ⟨v, rest, b1, b2, e, _, _, h⟩ => by rw [e, List.length_cons, inRel_len ps x.2 rest b2 h]; rfl
theorem arr_get {α : Type} (a : Array α) (j : Nat) (t : α) (h : a.toList[j]? = some t) : a[j]? = some t := by
 rw [← Array.getElem?_toList]
 exact h
theorem law_run (F : Fits P N τ) (hlaid : laidOutB P = true) {f : FuncId} {ts : List TypeId} {ps : List PK} {Fn : Eng.Fn N} {kf : Nat}
  (G : Good P f (Fn.spec ps [.v .bool] kf)) (hps : lawPs P τ ts ps = true) {B : Nat} (hlaw : ∀ x : HIn N.ρ ps, (∀ k, measI k ps x ≤ B) → (∀ k, okI k ps x) → ∃ o, Fn.run ps [.v .bool] kf x = some ((true, ()), o))
  {b0 : Nat} {args : Array Value} {ds : List (DataW H)} {p : List MemPlace} (hv : ∀ (j : Nat) t v, ts[j]? = some t → args[j]? = some v → Value.okWide P w .any b0 t v)
  (hA : DataW.TrodAll enc P w 0 (fun _ => true) true ts args.toList ds p) (hB : bulkAll ds ≤ B) (hgh : Fn.X.gh = 0 := by rfl) :
  Calls P f args w fun e W' => e = .returned (.bool true) ∧ Below w.heap.size w W' ∧ DataW.TrodAll enc P W' 0 (fun b => decide (b < w.heap.size)) true ts args.toList ds p := by
 obtain ⟨x, x1, x2, x3, x4⟩ := trodAll_in (vs0 := args.toList) F ts ps args.toList ds p hps (fun j t v ht hv' => hv j t v ht (by simpa using hv')) hA
 obtain ⟨o, hx⟩ := hlaw x (fun k => Nat.le_trans (x2 k) hB) x3
 have := G.calls w (fun b => b < w.heap.size) x args.toList [] ((true, ()), o) (fun _ h => h) x1 List.nodup_nil (fun g hg => by cases hg) hx
 rw [show (Fn.spec ps [RK.v .bool] kf).ps.length - (Fn.spec ps [RK.v .bool] kf).gh = args.toList.length from by rw [show (Fn.spec ps [RK.v .bool] kf).gh = 0 from hgh, inRel_len ps x _ _ x1]; rfl, List.take_length, Array.toArray_toList] at this
 refine this.mono ?_
 rintro e W' ⟨us, bl', rl, rfl, hC⟩
 have hb : Below w.heap.size w W' := ⟨hC.kept.os, hC.kept.tape, hC.kept.output, hC.kept.size, fun k hk => hC.kept.block k hk (fun h => by cases h)⟩
 refine ⟨?_, hb, trodAll_back hlaid hb ts ps _ ds p hps x4 hA⟩
 have hr := hC.res
 obtain ⟨v, rest, b1, b2, rfl, rfl, ⟨⟨cs, k1, k2⟩, rfl⟩, ⟨rfl, rfl⟩⟩ := hr
 have k1 : cs = [.bool true] := k1
 have k2 : cs = [v] := k2
 rw [k1] at k2
 cases k2
 rfl
end Go.Eng

set_option linter.unusedVariables false
set_option linter.unusedSimpArgs false
namespace Go.Eng
theorem wrap64_id {z : Int} (h1 : -9223372036854775808 ≤ z) (h2 : z < 9223372036854775808) : IntKind.i64.wrap z = z := by
 simp only [IntKind.wrap]
 first
  | omega
  | (simp [IntKind.bits, IntKind.signed]; omega)
  | (rw [Int.bmod_eq_of_le] <;> omega)
end Go.Eng

set_option linter.unusedVariables false
set_option linter.unusedSimpArgs false
namespace Go.Eng
variable {N : Names} {P : Program}
def cmpS (a b : List Int) : Int := bif strLt a b then -1 else bif strLt b a then 1 else 0
theorem cmpS_cons (x y : Int) (a b : List Int) : cmpS (x :: a) (y :: b) = if x < y then -1 else if y < x then 1 else cmpS a b := by
 unfold cmpS
 simp only [strLt]
 by_cases h1 : x < y
 ·simp [h1]
 ·by_cases h2 : y < x
  ·simp [h1, h2, show ¬ x = y by omega]
  ·have : x = y := by omega
   subst this
   simp
theorem cmpBytes : ∀ l m : List UInt8, Lib.compareBytes l m = cmpS (l.map fun b => (b.toNat : Int)) (m.map fun b => (b.toNat : Int))
 | [], [] => rfl
 | [], _ :: _ => rfl
 | _ :: _, [] => rfl
 | a :: l, b :: m => by
  rw [Lib.compareBytes, List.map_cons, List.map_cons, cmpS_cons, cmpBytes l m]
  have e1 : (a < b) ↔ ((a.toNat : Int) < (b.toNat : Int)) := by rw [UInt8.lt_iff_toNat_lt]; omega
  have e2 : (b < a) ↔ ((b.toNat : Int) < (a.toNat : Int)) := by rw [UInt8.lt_iff_toNat_lt]; omega
  by_cases h1 : a < b
  ·rw [if_pos h1, if_pos (e1.1 h1)]
  ·rw [if_neg h1, if_neg (fun h => h1 (e1.2 h))]
   by_cases h2 : b < a
   ·rw [if_pos h2, if_pos (e2.1 h2)]
   ·rw [if_neg h2, if_neg (fun h => h2 (e2.2 h))]
theorem good_cmp {id : FuncId} {fn : Func} {c : Code} (hf : P.funcs[id]? = some fn) (hb : fn.body = some c) (hn : (fn.name == "runtime.NumGoroutine") = false)
  (hcalls : ∀ (a b : ByteArray) (w : World), Calls P id #[.string a, .string b] w fun e w' => e = .returned (.int .i64 (Lib.compareBytes a.data.toList b.data.toList)) ∧ w' = w) :
  Good P id (specOf (N := N) [.v .str, .v .str] [.v (.int .i64)] 0 fun x => some ((cmpS x.1 x.2.1, ()), ())) where
 enter w args := callFunc_enter hf hb hn w args
 calls w ok x vs bl r hok hin hbl hblk hr := by
  obtain ⟨v1, rest, b1, b2, rfl, rfl, ⟨⟨cs1, h1, k1⟩, rfl⟩, v2, rest2, b3, b4, rfl, rfl, ⟨⟨cs2, h2, k2⟩, rfl⟩, rfl, rfl⟩ := hin
  obtain ⟨s1, e1, f1⟩ := h1
  obtain ⟨s2, e2, f2⟩ := h2
  have k1' : cs1 = [v1] := k1
  have k2' : cs2 = [v2] := k2
  rw [e1] at k1'
  rw [e2] at k2'
  have g1 : v1 = .string s1 := (List.cons.inj k1').1.symm
  have g2 : v2 = .string s2 := (List.cons.inj k2').1.symm
  have hr' : some ((cmpS x.1 x.2.1, ()), ()) = some r := hr
  cases hr'
  subst g1 g2
  refine (hcalls s1 s2 w).mono ?_
  rintro e w' ⟨rfl, rfl⟩
  refine ⟨[.int .i64 (cmpS x.1 x.2.1)], [], [], ?_, ⟨⟨rfl, rfl, rfl, Nat.le_refl _, fun _ _ _ => rfl⟩, rfl, ⟨_, [], [], [], rfl, rfl, ⟨⟨_, rfl, rfl⟩, rfl⟩, rfl, rfl⟩, List.nodup_nil, fun g hg => by cases hg⟩⟩
  rw [cmpBytes, ← f1, ← f2]
  rfl
end Go.Eng

set_option linter.unusedVariables false
set_option linter.unusedSimpArgs false
namespace Go.Eng
open Go.Sort Go.Proofs Go.ChangeShapes Go.WideShapes
variable {N : Names} {P : Program}
def insI (x : Int) : List Int → List Int
 | [] => [x]
 | y :: r => bif decide (y < x) then y :: insI x r else x :: y :: r
def isortI : List Int → List Int
 | [] => []
 | x :: r => insI x (isortI r)
theorem insI_perm (x : Int) : ∀ l, (insI x l).Perm (x :: l)
 | [] => List.Perm.refl _
 | y :: r => by
  unfold insI
  cases decide (y < x) with
  | true => exact ((insI_perm x r).cons y).trans (List.Perm.swap _ _ _)
  | false => exact List.Perm.refl _
theorem isortI_perm : ∀ l, (isortI l).Perm l
 | [] => List.Perm.refl _
 | x :: r => (insI_perm x _).trans ((isortI_perm r).cons x)
theorem insI_sorted (x : Int) : ∀ {l}, l.Pairwise (fun a b : Int => a ≤ b) → (insI x l).Pairwise (fun a b : Int => a ≤ b)
 | [], _ => List.pairwise_singleton _ _
 | y :: r, h => by
  obtain ⟨h1, h2⟩ := List.pairwise_cons.1 h
  unfold insI
  by_cases hyx : y < x
  ·rw [decide_eq_true hyx]
   refine List.pairwise_cons.2 ⟨fun z hz => ?_, insI_sorted x h2⟩
   rcases List.mem_cons.1 ((insI_perm x r).mem_iff.1 hz) with rfl | hz
   ·omega
   ·exact h1 z hz
  ·rw [decide_eq_false hyx]
   refine List.pairwise_cons.2 ⟨fun z hz => ?_, h⟩
   rcases List.mem_cons.1 hz with rfl | hz
   ·omega
   ·have := h1 z hz; omega
theorem isortI_sorted : ∀ l, (isortI l).Pairwise (fun a b : Int => a ≤ b)
 | [] => List.Pairwise.nil
 | x :: r => insI_sorted x (isortI_sorted r)
theorem sort_isortI (l : List Int) : (l.mergeSort fun x y => decide (x ≤ y)) = isortI l := by
 have h := List.pairwise_mergeSort (le := fun x y : Int => decide (x ≤ y)) (fun a b c h1 h2 => by
   simp only [decide_eq_true_eq] at h1 h2 ⊢; omega) (fun a b => by
   simp only [Bool.or_eq_true, decide_eq_true_eq]; omega) l
 have h' : (l.mergeSort fun x y => decide (x ≤ y)).Pairwise (fun a b : Int => a ≤ b) := h.imp fun {a b} hab => by simpa using hab
 exact List.Perm.eq_of_pairwise (fun a b _ _ h1 h2 => Int.le_antisymm h1 h2) h' (isortI_sorted l) ((List.mergeSort_perm l _).trans (isortI_perm l).symm)
def sortSpecI (N : Names) (el : TypeId) : Spec N := ⟨[.io el (.int .i64)], [], List Int, fun x => bif Nat.blt x.1.length 4611686018427387904 then some (isortI x.1) else none, fun r => ((), (r, ())), 0⟩
theorem rowC_int {w : World} {ok : Nat → Prop} : ∀ {xs : List Int} {cells : List Value}, RowC (Rep (N := N) w ok (.int .i64)) xs cells → cells = xs.map (Value.int .i64)
 | [], _, h => by simpa [RowC] using h
 | x :: xs, cells, ⟨c1, c2, e, h1, h2⟩ => by
  have h1 : c1 = [.int .i64 x] := h1
  rw [e, h1, rowC_int h2]; rfl
theorem int_rowC {w : World} {ok : Nat → Prop} : ∀ (xs : List Int), RowC (Rep (N := N) w ok (.int .i64)) xs (xs.map (Value.int .i64))
 | [] => rfl
 | x :: xs => ⟨[.int .i64 x], _, rfl, rfl, int_rowC xs⟩
theorem holdsI {w : World} {g : Nat} {cur : Array Value} {e : TypeId} {zs : List Int} (hb : w.heap[g]? = some (.cells cur e (0, 0))) (ht : cur.toList.take zs.length = zs.map (Value.int .i64)) : Holds (Value.int .i64) w g 0 zs.toArray := by
 intro j hj
 have hj' : j < zs.length := by simpa using hj
 have h1 : (cur.toList.take zs.length)[j]? = some (Value.int .i64 zs[j]) := by rw [ht]; simp [hj']
 rw [List.getElem?_take_of_lt hj', Array.getElem?_toList] at h1
 refine ⟨?_, by simp [World.frozen?, hb]⟩
 simp [World.cell?, hb, h1, hj']
theorem heapI {w : World} {g n : Nat} {os : Array Obj} {cur : Array Value} {e : TypeId} {fr : Nat × Nat} (d : Array Int) (hb : w.heap[g]? = some (.cells cur e fr)) :
  (grow (putRow (Value.int .i64) (Sort.ahead w n) g 0 d) os).heap[g]? = some (.cells (putCells (Value.int .i64) 0 d cur) e fr) := by
 have hg : g < w.heap.size := (Array.getElem?_eq_some_iff.1 hb).1
 rw [heap_grow_old _ _ (by simpa using hg)]
 simp [putRow, mapBlock, Sort.ahead, Array.getElem?_modify, hb, onCells]
theorem grownI {w : World} {g n : Nat} {os : Array Obj} (d : Array Int) : w.grownBy (grow (putRow (Value.int .i64) (Sort.ahead w n) g 0 d) os) (some g) := by
 refine ⟨rfl, rfl, rfl, by simp, fun k hk hne => ?_⟩
 rw [heap_grow_old _ _ (by simpa using hk)]
 have : g ≠ k := fun e => hne (by rw [e])
 simp [putRow, mapBlock, Sort.ahead, Array.getElem?_modify, this]
theorem takeI (cur : Array Value) (ts : List Int) (h : ts.length ≤ cur.size) : (putCells (Value.int .i64) 0 ts.toArray cur).toList.take ts.length = ts.map (Value.int .i64) := by
 apply List.ext_getElem?
 intro j
 by_cases hj : j < ts.length
 ·rw [List.getElem?_take_of_lt hj, Array.getElem?_toList]
  simp [putCells, hj, show j < cur.size by omega]
 ·rw [List.getElem?_take_eq_none (by omega), List.getElem?_eq_none (by simp; omega)]
theorem ownsI {w : World} {base g cap n : Nat} {e : TypeId} {os : Array Obj} {cur : Array Value} {zs ts : List Int} (hl : ts.length = zs.length) (hbase : base ≤ g) (hb : w.heap[g]? = some (.cells cur e (0, 0)))
  (h1 : zs.length ≤ cap) (h2 : cap ≤ maxLen) (h3 : cur.size = cap * 1) :
  (grow (putRow (Value.int .i64) (Sort.ahead w n) g 0 ts.toArray) os).ownsRow base e 1 (.slice (some ⟨g, 0, none⟩) zs.length cap) zs.length (ts.map (Value.int .i64)) :=
 ⟨by simp [hl], .inr ⟨g, cap, _, rfl, hbase, heapI _ hb, h1, h2, by simp [putCells, h3], by rw [Nat.mul_one, ← hl]; exact takeI cur ts (by omega)⟩⟩
theorem good_sortI {f : FuncId} {el : TypeId} (hcalls : ∀ (blk off cap : Nat) (zs : List Int) (w : World), Holds (Value.int .i64) w blk off zs.toArray → blk < w.heap.size → zs.length < 4611686018427387904 →
   Calls P f #[.slice (some ⟨blk, off, none⟩) zs.length cap] w fun e w' => e = .returned (.tuple #[]) ∧ ∃ n os, w' = grow (putRow (Value.int .i64) (Sort.ahead w n) blk off (zs.mergeSort fun x y => decide (x ≤ y)).toArray) os)
  {F : Fn N} {k : Nat} (hF : Good P f (F.spec [.io el (.int .i64)] [] k)) (hnil : F.run [.io el (.int .i64)] [] k ([], ()) = some ((), ([], ()))) (hgh : F.X.gh = 0 := by rfl) : Good P f (sortSpecI N el) where
 enter := hF.enter
 calls w ok x vs bl r hok hin hbl hblk hr := by
  obtain ⟨v, rest, b1, b2, rfl, rfl, ⟨hown, hb1⟩, ⟨rfl, rfl⟩⟩ := hin
  have hr : (bif Nat.blt x.1.length 4611686018427387904 then some (isortI x.1) else none) = some r := hr
  have hsz0 : x.1.length < 4611686018427387904 := by
   cases hb : Nat.blt x.1.length 4611686018427387904 with
   | false => rw [hb] at hr; cases hr
   | true => exact Nat.le_of_ble_eq_true hb
  rw [show Nat.blt x.1.length 4611686018427387904 = true from Nat.ble_eq_true_of_le hsz0] at hr
  have hr : some (isortI x.1) = some r := hr
  cases hr
  have hin : InRel w ok [v] [.io el (.int .i64)] x [v] (b1 ++ []) := ⟨v, [], b1, [], rfl, rfl, ⟨hown, hb1⟩, ⟨rfl, rfl⟩⟩
  obtain ⟨cells, ho, hc⟩ := hown
  rcases ho.2.2 with ⟨rfl, hn⟩ | ⟨g, cap, cur, rfl, _, hg, hnc, hcm, hcs, ht⟩
  ·have hx : x = (([], ()) : HIn N.ρ [.io el (.int .i64)]) := by
    obtain ⟨x1, x2⟩ := x
    have : x1 = [] := List.eq_nil_of_length_eq_zero hn
    subst this
    rfl
   subst hx
   have hfx : (F.spec [.io el (.int .i64)] [] k).f (([], ()) : HIn N.ρ [.io el (.int .i64)]) = some ((), ([], ())) := hnil
   have hk := hF.calls w ok _ _ _ _ hok hin hbl hblk hfx
   rw [show (F.spec [.io el (.int .i64)] [] k).gh = 0 from hgh] at hk
   refine hk.mono ?_
   rintro e w' ⟨us, bl', rl, he, hC⟩
   exact ⟨us, bl', rl, he, ⟨hC.kept, hC.out, hC.res, hC.nodup, hC.old⟩⟩
  ·have e1 := rowC_int hc
   have ht' : cur.toList.take x.1.length = x.1.map (Value.int .i64) := by
    have : N.sz (.int .i64) = 1 := rfl
    rw [this, Nat.mul_one, e1] at ht
    exact ht
   have hgl : g < w.heap.size := (Array.getElem?_eq_some_iff.1 hg).1
   have hgb : g ∈ b1 ++ [] := by rw [hb1]; simp [oneBlk, blkOf]
   have := hcalls g 0 cap x.1 w (holdsI hg ht') hgl hsz0
   refine this.mono ?_
   rintro e w' ⟨rfl, n, os, rfl⟩
   rw [sort_isortI]
   have hl : (isortI x.1).length = x.1.length := (isortI_perm x.1).length_eq
   have hgr : w.grownBy _ (some g) := grownI (w := w) (n := n) (os := os) (g := g) (isortI x.1).toArray
   have hrow := ownsI (base := 0) (os := os) (n := n) hl (Nat.zero_le _) hg (by omega) hcm (by have h1 : N.sz (Ty.int .i64) = 1 := rfl; rw [hcs, h1])
   refine ⟨[], oneBlk (.slice (some ⟨g, 0, none⟩) x.1.length cap), [], rfl, ⟨⟨hgr.os, hgr.tape, hgr.output, hgr.size, fun k hk hkb => hgr.block k hk (fun e => hkb (by cases e; exact hgb))⟩, ?_, ⟨rfl, rfl⟩, ?_, ?_⟩⟩
   ·have hel : el < tagM := by
     rcases ho.1 with h0 | h0
     ·cases h0
     ·exact h0
    refine ⟨_, [], oneBlk (.slice (some ⟨g, 0, none⟩) x.1.length cap), [], rfl, (by simp), ⟨⟨(isortI x.1).map (Value.int .i64), ?_, ?_⟩, rfl⟩, rfl⟩
    ·refine ⟨.inr hel, ?_⟩
     show World.ownsRow _ 0 el 1 (.slice (some ⟨g, 0, none⟩) x.1.length cap) (isortI x.1).length _
     rw [hl]
     exact hrow
    ·show RowC _ (isortI x.1) _
     exact int_rowC _
   ·simp [oneBlk, blkOf]
   ·intro g' hg'
    have : g' = g := by simpa [oneBlk, blkOf] using hg'
    subst this
    exact ⟨.inl hgb, Nat.lt_of_lt_of_le hgl hgr.size⟩
end Go.Eng

set_option linter.unusedVariables false
set_option linter.unusedSimpArgs false
namespace Go.Eng
open Go.Sort Go.Proofs Go.ChangeShapes Go.WideShapes
variable {N : Names} {P : Program}
def shrinkSpec (N : Names) (el : TypeId) (cmp : List Int → List Int) : Spec N := ⟨[.go el (.int .i64)], [.own el (.int .i64)], List Int, fun x => bif Nat.blt x.1.length 4611686018427387904 then some (cmp x.1) else none, fun r => ((r, ()), ()), 0⟩
theorem good_shrink {f : FuncId} {el : TypeId} {cmp : List Int → List Int} (hle : ∀ zs, (cmp zs).length ≤ zs.length) (hn : cmp [] = []) (hel : el < tagM) (henter : ∀ w args, (callFunc f args).run P w = .ok (.enter f args) w)
  (hcalls : ∀ (blk cap : Nat) (zs : List Int) (w : World), Holds (Value.int .i64) w blk 0 zs.toArray → zs.length < 4611686018427387904 → zs.length ≤ cap →
   Calls P f #[.slice (some ⟨blk, 0, none⟩) zs.length cap] w fun e w' => e = .returned (.slice (some ⟨blk, 0, none⟩) (cmp zs).length cap) ∧ ∃ q, w' = putRow (Value.int .i64) (Sort.ahead w q) blk 0 (cmp zs ++ List.replicate (zs.length - (cmp zs).length) 0).toArray)
  (hempty : ∀ w, Calls P f #[.slice none 0 0] w fun e w' => e = .returned (.slice none 0 0) ∧ w' = w) : Good P f (shrinkSpec N el cmp) where
 enter := henter
 calls w ok x vs bl r hok hin hbl hblk hr := by
  obtain ⟨v, rest, b1, b2, rfl, rfl, ⟨hown, hb1⟩, ⟨rfl, rfl⟩⟩ := hin
  have hr : (bif Nat.blt x.1.length 4611686018427387904 then some (cmp x.1) else none) = some r := hr
  have hsz0 : x.1.length < 4611686018427387904 := by
   cases hb : Nat.blt x.1.length 4611686018427387904 with
   | false => rw [hb] at hr; cases hr
   | true => exact Nat.le_of_ble_eq_true hb
  rw [show Nat.blt x.1.length 4611686018427387904 = true from Nat.ble_eq_true_of_le hsz0] at hr
  have hr : some (cmp x.1) = some r := hr
  cases hr
  obtain ⟨cells, ho, hc⟩ := hown
  rcases ho.2.2 with ⟨rfl, hn0⟩ | ⟨g, cap, cur, rfl, _, hg, hnc, hcm, hcs, ht⟩
  ·refine (hempty w).mono ?_
   rintro e w' ⟨rfl, rfl⟩
   have hx : x.1 = [] := List.eq_nil_of_length_eq_zero hn0
   refine ⟨[.slice none 0 0], [], [], rfl, ⟨⟨rfl, rfl, rfl, Nat.le_refl _, fun _ _ _ => rfl⟩, rfl, ?_, List.nodup_nil, (fun g hg => by cases hg)⟩⟩
   refine ⟨_, [], [], [], rfl, rfl, ⟨⟨[], ?_, ?_⟩, rfl⟩, ⟨rfl, rfl⟩⟩
   ·show _ ∧ World.ownsRow _ 0 el 1 _ (cmp x.1).length _
    rw [hx, hn]
    exact ⟨.inl rfl, rfl, .inl ⟨rfl, rfl⟩⟩
   ·show RowC _ (cmp x.1) _
    rw [hx, hn]
    rfl
  ·have e1 := rowC_int hc
   have ht' : cur.toList.take x.1.length = x.1.map (Value.int .i64) := by
    have : N.sz (.int .i64) = 1 := rfl
    rw [this, Nat.mul_one, e1] at ht
    exact ht
   have hgl : g < w.heap.size := (Array.getElem?_eq_some_iff.1 hg).1
   have hgb : g ∈ b1 ++ [] := by rw [hb1]; simp [oneBlk, blkOf]
   refine (hcalls g cap x.1 w (holdsI hg ht') hsz0 hnc).mono ?_
   rintro e w' ⟨rfl, n, rfl⟩
   have hk := hle x.1
   generalize hzs : cmp x.1 = ks at hk ⊢
   generalize hts : ks ++ List.replicate (x.1.length - ks.length) 0 = ts
   have hl : ts.length = x.1.length := by rw [← hts]; simp; omega
   have hgrow : ∀ w1 : World, grow w1 #[] = w1 := fun w1 => by simp [grow]
   have hgr : w.grownBy _ (some g) := grownI (w := w) (n := n) (os := #[]) (g := g) ts.toArray
   have hheap := heapI (n := n) (os := #[]) ts.toArray hg
   rw [hgrow] at hgr hheap
   have hsz : (Sort.ahead w n).heap.size = w.heap.size := rfl
   refine ⟨[.slice (some ⟨g, 0, none⟩) ks.length cap], [], [g], rfl, ⟨⟨hgr.os, hgr.tape, hgr.output, hgr.size, fun k hk hkb => hgr.block k hk (fun e => hkb (by cases e; exact hgb))⟩, rfl, ?_, (by simp), ?_⟩⟩
   ·refine ⟨_, [], [g], [], rfl, (by simp), ⟨⟨ks.map (Value.int .i64), ⟨.inr hel, ?_⟩, ?_⟩, rfl⟩, ⟨rfl, rfl⟩⟩
    ·show World.ownsRow _ 0 el 1 (.slice (some ⟨g, 0, none⟩) ks.length cap) ks.length _
     have hc1 : cur.size = cap * 1 := hcs
     refine ⟨by simp, .inr ⟨g, cap, _, rfl, Nat.zero_le _, hheap, by omega, hcm, by simp [putCells, hc1], ?_⟩⟩
     have h1 := takeI cur ts (by omega)
     have h2 : ((putCells (Value.int .i64) 0 ts.toArray cur).toList.take ts.length).take ks.length = (ts.map (Value.int .i64)).take ks.length := by rw [h1]
     rw [List.take_take, Nat.min_eq_left (by omega)] at h2
     rw [Nat.mul_one, h2, ← hts]
     simp
    ·show RowC _ ks _
     exact int_rowC _
   ·intro g' hg'
    have : g' = g := by simpa using hg'
    subst this
    exact ⟨.inl hgb, Nat.lt_of_lt_of_le hgl hgr.size⟩
def growSpec (N : Names) (el : TypeId) (e : Ty) : Spec N := ⟨[.go el e, .v (.int .i64)], [.own el e], List (e.den N.ρ), fun x => bif Nat.beq x.1.length 0 && (decide (0 ≤ x.2.1) && decide (x.2.1 ≤ 1000000)) then some [] else none, fun r => ((r, ()), ()), 0⟩
theorem good_grow {f : FuncId} {el : TypeId} {e : Ty} {zs : Nat} (hz : zs = N.sz e) (hel : el < tagM) (henter : ∀ w args, (callFunc f args).run P w = .ok (.enter f args) w)
  (hroom : ∀ (base : Option Addr) (c n : Nat) (w : World), c ≤ maxLen → n ≤ 1000000 → n ≤ c → Calls P f #[.slice base 0 c, .int .i64 n] w fun e w' => e = .returned (.slice base 0 c) ∧ w' = w)
  (hgrow : ∀ (base : Option Addr) (c n : Nat) (cs : List Value) (w : World), n ≤ 1000000 → c < n → cs.length = c * zs → (base = none → c = 0) → (∀ a, base = some a → ∀ j v, cs[j]? = some v → w.cell? (a.add j) = some v) →
   Calls P f #[.slice base 0 c, .int .i64 n] w fun e w' => ∃ G arr, n ≤ G ∧ G ≤ maxLen ∧ arr.size = G * zs ∧ e = .returned (.slice (some ⟨w.heap.size, 0, none⟩) 0 G) ∧ w' = w.drew.alloc (.cells arr el)) : Good P f (growSpec N el e) where
 enter := henter
 calls w ok x vs bl r hok hin hbl hblk hr := by
  obtain ⟨v, rest, b1, b2, rfl, rfl, ⟨hown, hb1⟩, ⟨v2, rest2, b3, b4, rfl, rfl, ⟨⟨cs2, hrep2, has2⟩, rfl⟩, ⟨rfl, rfl⟩⟩⟩ := hin
  have hr : (bif Nat.beq x.1.length 0 && (decide (0 ≤ x.2.1) && decide (x.2.1 ≤ 1000000)) then some [] else none) = some r := hr
  obtain ⟨hc0, hr⟩ := bif_none hr
  cases hr
  simp only [Bool.and_eq_true, decide_eq_true_eq] at hc0
  obtain ⟨h0, h1, h2⟩ := hc0
  have h0 := Nat.eq_of_beq_eq_true h0
  obtain ⟨n, hn⟩ : ∃ n : Nat, x.2.1 = (n : Int) := ⟨Int.toNat x.2.1, (Int.toNat_of_nonneg h1).symm⟩
  have hn6 : n ≤ 1000000 := by
   have h3 : (n : Int) ≤ 1000000 := hn ▸ h2
   omega
  have hv2 : v2 = .int .i64 n := by
   have h3 : cs2 = [v2] := has2
   have h4 : cs2 = [.int .i64 x.2.1] := hrep2
   rw [h4] at h3
   rw [← (List.cons.inj h3).1, hn]
  subst hv2
  have hres : ∀ w' (v' : Value), (v' = .slice none 0 0 ∨ el < tagM) ∧ w'.ownsRow 0 el (N.sz e) v' 0 [] → ∀ ok', ResRel w' ok' [.own el e] (([], ()) : HRes N.ρ [.own el e]) [v'] (oneBlk v') := fun w' v' h ok' =>
   ⟨v', [], oneBlk v', [], rfl, by simp, ⟨⟨[], h, rfl⟩, rfl⟩, ⟨rfl, rfl⟩⟩
  have room : ∀ (base : Option Addr) (c : Nat), v = .slice base 0 c → c ≤ maxLen → n ≤ c → ((v = .slice none 0 0 ∨ el < tagM) ∧ w.ownsRow 0 el (N.sz e) v 0 []) → Calls P f #[v, .int .i64 n] w fun e' w' => ∃ us bl' rl, e' = .returned (packV us) ∧ AfterCall (growSpec N el e) ok [v, .int .i64 n] (b1 ++ ([] ++ [])) w w' [] us bl' rl := by
   intro base c hv hcm hnc hrow
   subst hv
   refine (hroom base c n w hcm hn6 hnc).mono ?_
   rintro e' w' ⟨rfl, rfl⟩
   refine ⟨[.slice base 0 c], [], oneBlk (.slice base 0 c), rfl, ⟨⟨rfl, rfl, rfl, Nat.le_refl _, fun _ _ _ => rfl⟩, rfl, hres _ _ hrow _, ?_, ?_⟩⟩
   ·unfold oneBlk
    cases blkOf (Value.slice base 0 c) <;> simp
   ·intro g hg
    have hgb : g ∈ b1 ++ ([] ++ []) := by rw [hb1]; simpa using hg
    exact ⟨.inl hgb, (hblk g hgb).2⟩
  have big : ∀ (base : Option Addr) (c : Nat) (cs : List Value), v = .slice base 0 c → c < n → cs.length = c * zs → (base = none → c = 0) → (∀ a, base = some a → ∀ j v, cs[j]? = some v → w.cell? (a.add j) = some v) → Calls P f #[v, .int .i64 n] w fun e' w' => ∃ us bl' rl, e' = .returned (packV us) ∧ AfterCall (growSpec N el e) ok [v, .int .i64 n] (b1 ++ ([] ++ [])) w w' [] us bl' rl := by
   intro base c cs hv hcn h3 h4 h5
   subst hv
   refine (hgrow base c n cs w hn6 hcn h3 h4 h5).mono ?_
   rintro e' w' ⟨G, arr, g1, g2, g3, rfl, rfl⟩
   have hhp : (w.drew.alloc (.cells arr el)).heap = w.heap.push (.cells arr el) := rfl
   have hheap : (w.drew.alloc (.cells arr el)).heap[w.heap.size]? = some (.cells arr el (0, 0)) := by rw [hhp]; simp
   refine ⟨[.slice (some ⟨w.heap.size, 0, none⟩) 0 G], [], oneBlk (.slice (some ⟨w.heap.size, 0, none⟩) 0 G), rfl, ⟨⟨rfl, rfl, rfl, by rw [hhp]; simp, fun k hk _ => by rw [hhp]; simp [Array.getElem?_push, Nat.ne_of_lt hk]⟩, rfl, hres _ _ ⟨.inr hel, ?_⟩ _, by simp [oneBlk, blkOf], ?_⟩⟩
   ·exact ⟨by simp, .inr ⟨w.heap.size, G, arr, rfl, Nat.zero_le _, hheap, by omega, g2, by rw [g3, hz], by simp⟩⟩
   ·intro g hg
    have : g = w.heap.size := by simpa [oneBlk, blkOf] using hg
    subst this
    exact ⟨.inr (Nat.le_refl _), by rw [hhp]; simp⟩
  obtain ⟨cells, ho, hc⟩ := hown
  have hrow0 : (v = .slice none 0 0 ∨ el < tagM) ∧ w.ownsRow 0 el (N.sz e) v 0 [] := by
   have hx : x.1 = [] := List.eq_nil_of_length_eq_zero h0
   rw [hx] at hc
   rw [h0, show cells = [] from hc] at ho
   exact ho
  rcases ho.2.2 with ⟨hv, _⟩ | ⟨g, cap, cur, hv, _, hg, hnc, hcm, hcs, ht⟩
  ·by_cases hn0 : n = 0
   ·exact room none 0 hv (Nat.zero_le _) (by omega) hrow0
   ·exact big none 0 [] hv (by omega) (by simp) (fun _ => rfl) (fun a ha => by cases ha)
  ·rw [h0] at hv
   by_cases hnc' : n ≤ cap
   ·exact room _ cap hv hcm hnc' hrow0
   ·refine big _ cap cur.toList hv (by omega) (by rw [hz]; simpa using hcs) (fun h => by cases h) (fun a ha j u hu => ?_)
    cases ha
    have hj : cur[j]? = some u := by simpa using hu
    by_cases hj0 : j = 0
    ·subst hj0; simp [World.cell?, Addr.add, hg, hj]
    ·simp [World.cell?, Addr.add, hj0, hg, hj]
end Go.Eng
