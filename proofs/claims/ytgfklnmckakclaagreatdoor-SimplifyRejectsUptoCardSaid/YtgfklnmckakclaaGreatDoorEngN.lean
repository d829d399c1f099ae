/- The engine, part N: literals, new rows and boxes. -/
import Derived.Test.YtgfklnmckakclaaGreatDoorEngM
set_option linter.unusedVariables false
set_option linter.unusedSimpArgs false
namespace Go.Eng
variable {N : Names} {P : Program} {τ : TypeId → Option TI} {β : Type}

theorem RowC_upd {α : Type} {R : α → List Value → Prop} {sz : Nat} (hl : ∀ x cs, R x cs → cs.length = sz) {off : Nat} {vs : List Value} {x' : α} :
    ∀ {xs : List α} {cells : List Value}, RowC R xs cells → ∀ (i : Nat) x, xs[i]? = some x → (∀ ccs, R x ccs → R x' (splice ccs off vs) ∧ off + vs.length ≤ ccs.length) → RowC R (xs.set i x') (splice cells (i * sz + off) vs) ∧ i * sz + off + vs.length ≤ cells.length
  | [], _, _, i, x, hx, _ => by simp at hx
  | y :: ys, cells, ⟨c1, c2, e, h1, h2⟩, 0, x, hx, hu => by
    simp at hx
    subst hx
    subst e
    obtain ⟨k1, k2⟩ := hu c1 h1
    refine ⟨⟨splice c1 off vs, c2, ?_, k1, h2⟩, by rw [List.length_append]; omega⟩
    rw [Nat.zero_mul, Nat.zero_add]
    unfold splice
    rw [List.take_append_of_le_length (by omega), List.drop_append_of_le_length (by omega)]
    simp
  | y :: ys, cells, ⟨c1, c2, e, h1, h2⟩, i + 1, x, hx, hu => by
    subst e
    have hc1 := hl y c1 h1
    obtain ⟨k1, k2⟩ := RowC_upd hl h2 i x (by simpa using hx) hu
    have hm : (i + 1) * sz = sz + i * sz := by rw [Nat.add_mul, Nat.one_mul, Nat.add_comm]
    refine ⟨⟨c1, splice c2 (i * sz + off) vs, ?_, h1, k1⟩, by rw [List.length_append, hm]; omega⟩
    unfold splice
    rw [hm, List.take_append, List.drop_append, List.take_of_length_le (by omega : c1.length ≤ sz + i * sz + off), List.drop_eq_nil_of_le (by omega : c1.length ≤ sz + i * sz + off + vs.length), hc1]
    simp only [List.nil_append, List.append_assoc]
    congr 3
    · omega
    · rw [show sz + i * sz + off + vs.length - sz = i * sz + off + vs.length from by omega]

theorem RowC_append {α : Type} {R : α → List Value → Prop} : ∀ {xs ys : List α} {cs ds : List Value}, RowC R xs cs → RowC R ys ds → RowC R (xs ++ ys) (cs ++ ds)
  | [], ys, cs, ds, h, h' => by rw [show cs = [] from h]; exact h'
  | x :: xs, ys, cs, ds, ⟨c1, c2, e, h1, h2⟩, h' => ⟨c1, c2 ++ ds, by rw [e, List.append_assoc], h1, RowC_append h2 h'⟩

theorem RowC_replicate {α : Type} {R : α → List Value → Prop} {x : α} {zc : List Value} (h : R x zc) : ∀ (n : Nat) (cs : List Value), cs.length = n * zc.length → (∀ m, m < cs.length → cs[m]? = zc[m % zc.length]?) → RowC R (List.replicate n x) cs
  | 0, cs, hl, _ => List.eq_nil_of_length_eq_zero (by simpa using hl)
  | n + 1, cs, hl, hc => by
    have hm : (n + 1) * zc.length = zc.length + n * zc.length := by rw [Nat.add_mul, Nat.one_mul, Nat.add_comm]
    refine ⟨cs.take zc.length, cs.drop zc.length, (List.take_append_drop _ _).symm, ?_, RowC_replicate h n _ (by rw [List.length_drop]; omega) (fun m hmlt => ?_)⟩
    · have : cs.take zc.length = zc := by
        apply List.ext_getElem?
        intro m
        rw [List.getElem?_take]
        split
        · rename_i hlt
          rw [hc m (by omega), Nat.mod_eq_of_lt hlt]
        · rw [List.getElem?_eq_none (by omega)]
      rw [this]
      exact h
    · rw [List.length_drop] at hmlt
      rw [List.getElem?_drop, hc _ (by omega), Nat.add_mod_left]

theorem range_cells (n : Nat) (zc : Array Value) (hz : 0 < zc.size) : ∀ m, m < ((Array.range n).map (zc[· % zc.size]!)).toList.length → ((Array.range n).map (zc[· % zc.size]!)).toList[m]? = zc.toList[m % zc.toList.length]? := by
  intro m hm
  have hlt : m < n := by simpa using hm
  have h2 : m % zc.size < zc.size := Nat.mod_lt _ hz
  simp [hlt, h2]

theorem foldl_splice (off : Nat) : ∀ (vs : List Value) (j : Nat) (cs : Array Value), off + j + vs.length ≤ cs.size →
    ((vs.zipIdx j).foldl (fun cs (x : Value × Nat) => cs.setIfInBounds (off + x.2) x.1) cs) = (splice cs.toList (off + j) vs).toArray
  | [], j, cs, h => by simp [splice]
  | v :: vs, j, cs, h => by
    simp only [List.length_cons] at h
    rw [List.zipIdx_cons, List.foldl_cons, foldl_splice off vs (j + 1) _ (by simp; omega)]
    congr 1
    simp only [splice, Array.toList_setIfInBounds, List.length_cons]
    rw [show off + j + (vs.length + 1) = off + (j + 1) + vs.length from by omega]
    rw [List.take_set, List.drop_set, if_pos (by omega)]
    have hl : off + j < cs.toList.length := by simp; omega
    rw [show off + (j + 1) = off + j + 1 from by omega, List.take_succ_eq_append_getElem hl, List.set_append_right _ _ (by simp; omega)]
    simp only [List.length_take, List.append_assoc, List.singleton_append]
    rw [show min (off + j) cs.toList.length = off + j from by omega, Nat.sub_self]
    rfl

theorem fill_step {place : Nat → Option (Nat × Nat)} {cells : Array Value} {i off size : Nat} {v : Value} {rest : List (Nat × Value)} (hp : place i = some (off, size)) (hs : v.cells.size = size) (hfit : off + size ≤ cells.size) :
    Instr.fill place cells ((i, v) :: rest) = Instr.fill place (splice cells.toList off v.cells.toList).toArray rest := by
  simp only [Instr.fill, hp]
  rw [if_neg (by simp only [Bool.or_eq_true, decide_eq_true_eq]; rintro (h | h); exact h hs; omega)]
  congr 1
  have := foldl_splice off v.cells.toList 0 cells (by simp; omega)
  rw [← Array.foldl_toList, Array.toList_zipIdx]
  exact this

def hlSet : (ts : List Ty) → HL N.ρ ts → Nat → TV N → Option (HL N.ρ ts)
  | [], _, _, _ => none
  | t :: _, x, 0, v => (castTy N v.t t v.x).map fun y => (y, x.2)
  | _ :: ts, x, i + 1, v => (hlSet ts x.2 i v).map fun y => (x.1, y)

theorem hlSet_rep {w : World} {ok : Nat → Prop} {v : TV N} {vs : List Value} (hv : Rep w ok v.t v.x vs) : ∀ (ts : List Ty) (x y : HL N.ρ ts) (i : Nat) (cs : List Value), hlSet ts x i v = some y → RepL w ok (RepN w ok) ts x cs →
    RepL w ok (RepN w ok) ts y (splice cs (offL N ts i) vs) ∧ offL N ts i + vs.length ≤ cs.length
  | [], _, _, _, _, h, _ => by cases h
  | t :: ts, x, y, 0, cs, h, ⟨c1, c2, e, h1, h2⟩ => by
    subst e
    simp only [hlSet, Option.map_eq_some_iff] at h
    obtain ⟨z, hz, rfl⟩ := h
    have hzr := castTy_rep hz hv
    have l1 := Rep_length (show Rep w ok t x.1 c1 from h1)
    have l2 := Rep_length hzr
    simp only [offL]
    refine ⟨⟨vs, c2, ?_, hzr, h2⟩, by rw [List.length_append]; omega⟩
    unfold splice
    rw [List.take_zero, List.nil_append, Nat.zero_add, List.drop_append, List.drop_eq_nil_of_le (by omega), show vs.length - c1.length = 0 from by omega]
    simp
  | t :: ts, x, y, i + 1, cs, h, ⟨c1, c2, e, h1, h2⟩ => by
    subst e
    simp only [hlSet, Option.map_eq_some_iff] at h
    obtain ⟨z, hz, rfl⟩ := h
    obtain ⟨k1, k2⟩ := hlSet_rep hv ts x.2 z i c2 hz h2
    have l1 := Rep_length (show Rep w ok t x.1 c1 from h1)
    simp only [offL]
    refine ⟨⟨c1, splice c2 (offL N ts i) vs, ?_, h1, k1⟩, by rw [List.length_append]; omega⟩
    unfold splice
    rw [List.take_append, List.drop_append, List.take_of_length_le (by omega : c1.length ≤ N.sz t + offL N ts i), List.drop_eq_nil_of_le (by omega : c1.length ≤ N.sz t + offL N ts i + vs.length), l1]
    simp only [List.nil_append, List.append_assoc]
    congr 3
    · omega
    · rw [show N.sz t + offL N ts i + vs.length - N.sz t = offL N ts i + vs.length from by omega]

def tyAt : List Ty → Nat → Option Ty
  | [], _ => none
  | t :: _, 0 => some t
  | _ :: ts, i + 1 => tyAt ts i

theorem FieldsFit_ty : ∀ (ts : List Ty) (off : Nat) (fs : List Field) (i : Nat) (t : Ty), FieldsFit N τ ts off fs → tyAt ts i = some t → ∃ f e, fs[i]? = some f ∧ f.offset = off + offL N ts i ∧ τ f.type = some ⟨t, e⟩
  | [], _, _, _, _, _, h => by cases h
  | _ :: _, _, [], _, _, hf, _ => hf.elim
  | t :: ts, off, f :: fs, 0, t', hf, h => by
    cases h
    obtain ⟨f1, ⟨e, f2⟩, _⟩ := hf
    exact ⟨f, e, rfl, by simp [offL, f1], f2⟩
  | t :: ts, off, f :: fs, i + 1, t', hf, h => by
    obtain ⟨_, _, _, _, f5⟩ := hf
    obtain ⟨f', e, h1, h2, h3⟩ := FieldsFit_ty ts _ fs i t' f5 h
    exact ⟨f', e, by simpa using h1, by rw [h2]; simp [offL, Nat.add_assoc], h3⟩

def setFields (own : List (Nat × Blk N)) (ρ : Operand → RV N) (ts : List Ty) : List (Nat × Operand) → HL N.ρ ts → List Nat → Option (HL N.ρ ts × List Nat)
  | [], x, bs => some (x, bs)
  | (i, o) :: r, x, bs => match tyAt ts i with
    | some t => match toDen own t (ρ o) with
      | some (y, b) => match hlSet ts x i ⟨t, y⟩ with
        | some x' => setFields own ρ ts r x' (bs ++ b)
        | none => none
      | none => none
    | none => none

theorem AsV_cells {w : World} {ok : Nat → Prop} {t : Ty} {x : t.den N.ρ} {v : Value} {cs : List Value} (hr : Rep w ok t x cs) (hv : AsV t v cs) : v.cells.toList = cs := by
  cases t with
  | nm n => rw [show v = _ from hv]; rfl
  | _ =>
    have hv' : cs = [v] := hv
    have hone := Rep_one hr v (by rw [hv']; simp)
    rw [hv']
    cases v <;> first | rfl | cases hone

theorem setFields_rel {io : Io} {w0 w : World} {σ : St N} {E : Env} {a : Act} (hr : RelE io w0 σ E a w) {ts : List Ty} {fs : List Field} (hf : FieldsFit N τ ts 0 fs)
    {place : Nat → Option (Nat × Nat)} (hplace : ∀ i t, tyAt ts i = some t → place i = some (offL N ts i, N.sz t)) :
    ∀ (parts : List (Nat × Operand)) (x y : HL N.ρ ts) (bs bs' : List Nat) (cs : List Value), setFields σ.own (ev σ) ts parts x bs = some (y, bs') → RepL w (okb w.heap.size σ.own E bs) (RepN w (okb w.heap.size σ.own E bs)) ts x cs →
      ∃ ds, Instr.fill place cs.toArray (parts.map fun p => (p.1, a.eval p.2)) = some ds.toArray ∧ RepL w (okb w.heap.size σ.own E bs') (RepN w (okb w.heap.size σ.own E bs')) ts y ds
  | [], x, y, bs, bs', cs, h, hx => by
    cases h
    exact ⟨cs, rfl, hx⟩
  | (i, o) :: r, x, y, bs, bs', cs, h, hx => by
    simp only [setFields] at h
    split at h
    · rename_i t ht
      split at h
      · rename_i z b hz
        split at h
        · rename_i x' hx'
          obtain ⟨vs, v1, v2⟩ := hr.toDen hz (hr.ev o)
          have v3 := AsV_cells v1 v2
          have v4 := Rep_length v1
          have hxm := RepLL_more (bs' := bs ++ b) (fun i hi => List.mem_append.2 (.inl hi)) hx
          have hvm := Rep_more (bs' := bs ++ b) (fun i hi => List.mem_append.2 (.inr hi)) v1
          obtain ⟨k1, k2⟩ := hlSet_rep (v := ⟨t, z⟩) hvm ts x x' i cs hx' hxm
          obtain ⟨ds, d1, d2⟩ := setFields_rel hr hf hplace r x' y (bs ++ b) bs' _ h k1
          refine ⟨ds, ?_, d2⟩
          rw [List.map_cons, fill_step (hplace i t ht) (by rw [← v4, ← v3]; simp) (by simp; omega)]
          rw [show (cs.toArray).toList = cs from rfl, v3]
          exact d1
        · cases h
      · cases h
    · cases h

def evBuild (τ : TypeId → Option TI) (σ : St N) (t : TypeId) (parts : List (Nat × Operand)) (k : KK N β) : Option β :=
  match τ t with
  | some ⟨.nm n, _⟩ => match setFields σ.own (ev σ) (N.body n) parts (N.un n (N.dv n)) [] with
    | some (x, bs) => k (.one (.data (.nm n) (N.re n x) bs)) []
    | none => none
  | _ => none

theorem places_of (F : Fits P N τ) : ∀ (ts : List Ty) (off : Nat) (fs : List Field), FieldsFit N τ ts off fs → ∃ pl, fs.mapM (fun f => (P.info? f.type).map fun i => (f.offset, i.size)) = some pl ∧ ∀ i t, tyAt ts i = some t → pl[i]? = some (off + offL N ts i, N.sz t)
  | [], off, [], _ => ⟨[], rfl, fun i t h => by cases h⟩
  | [], _, _ :: _, hf => hf.elim
  | _ :: _, _, [], hf => hf.elim
  | t :: ts, off, f :: fs, hf => by
    obtain ⟨f1, ⟨e, f2⟩, _, _, f5⟩ := hf
    obtain ⟨i, z, zc, h1, _, h3, _⟩ := F.info f2
    obtain ⟨pl, p1, p2⟩ := places_of F ts _ fs f5
    refine ⟨(f.offset, i.size) :: pl, ?_, fun j t' hj => ?_⟩
    · simp [List.mapM_cons, h1, p1]
    · cases j with
      | zero => cases hj; simp [offL, f1, h3]
      | succ j =>
        have := p2 j t' hj
        simp only [List.getElem?_cons_succ, this, offL, Nat.add_assoc]

theorem evBuild_sound (F : Fits P N τ) {σ : St N} {t : TypeId} {parts : Array (Nat × Operand)} {k : KK N β} {r : β} (h : evBuild τ σ t parts.toList k = some r) :
    ∃ s ad, k s ad = some r ∧ Does P σ (fun a => Instr.build t (parts.map fun (i, x) => (i, a.eval x))) s ad := by
  unfold evBuild at h
  split at h
  · rename_i n e hτ
    split at h
    · rename_i x bs hx
      refine ⟨_, _, h, Does.pure fun io w0 E a w hr => ?_⟩
      obtain ⟨fs, u1, u2, _, _, zc, ⟨it, i1, i2, i3, i4⟩, _, u5⟩ := F.nm t n e hτ
      rcases u1 with ⟨_, u1⟩ | ⟨len, el, ie, _, u1, ui, rfl⟩
      · obtain ⟨pl, p1, p2⟩ := places_of F _ _ _ u2
        obtain ⟨ds, d1, d2⟩ := setFields_rel (τ := τ) hr u2 (place := fun i => pl.toArray[i]?) (fun i t' ht' => by simpa using p2 i t' ht') parts.toList _ x [] bs zc.toList hx (RepN_open (u5 w (okb w.heap.size σ.own E [])))
        refine ⟨.agg ds.toArray, ?_, ds, RepN_close (by rw [N.un_re]; exact d2), rfl⟩
        refine run_build w t _ ds.toArray ?_
        unfold Program.built
        simp only [i1, u1, i2, p1]
        rw [show (parts.map fun (x : Nat × Operand) => (x.1, a.eval x.2)).toList = parts.toList.map (fun p => (p.1, a.eval p.2)) from by simp]
        exact d1
      · have hpl : ∀ i t, tyAt (N.body n) i = some t → (fun i => some (i * ie.size, ie.size)) i = some (offL N (N.body n) i, N.sz t) := by
          intro i t' ht'
          obtain ⟨f, e', g1, g2, g3⟩ := FieldsFit_ty _ 0 _ i t' u2 ht'
          obtain ⟨hlt, rfl⟩ := List.getElem?_eq_some_iff.1 g1
          simp only [virt, List.getElem_map, List.getElem_range', Nat.zero_add, Nat.one_mul] at g2 g3
          obtain ⟨i2, z, zc2, h1, _, h3, _⟩ := F.info g3
          rw [ui] at h1
          cases h1
          rw [← h3, ← g2]
        obtain ⟨ds, d1, d2⟩ := setFields_rel (τ := τ) hr u2 (place := fun i => some (i * ie.size, ie.size)) hpl parts.toList _ x [] bs zc.toList hx (RepN_open (u5 w (okb w.heap.size σ.own E [])))
        refine ⟨.agg ds.toArray, ?_, ds, RepN_close (by rw [N.un_re]; exact d2), rfl⟩
        refine run_build w t _ ds.toArray ?_
        unfold Program.built
        simp only [i1, u1, i2, ui]
        rw [show (parts.map fun (x : Nat × Operand) => (x.1, a.eval x.2)).toList = parts.toList.map (fun p => (p.1, a.eval p.2)) from by simp]
        exact d1
    · cases h
  · cases h

end Go.Eng
